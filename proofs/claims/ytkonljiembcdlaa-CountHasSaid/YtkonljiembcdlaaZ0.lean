import Derived.Test.YtkonljiembcdlaaPCx0
import Derived.Test.YtkonljiembcdlaaMyTiny
import Derived.Test.YtkonljiembcdlaaPCx4
import Derived.Test.YtkonljiembcdlaaPCx1
import Derived.Test.YtkonljiembcdlaaPCx5
import Derived.Test.YtkonljiembcdlaaWMore
namespace Go.Proofs.Ytkonljiembcdlaa.PC
open Go.Proofs.MyWords Go.RowKit Go.Proofs.YtkonljiembcdlaaW.PrintWords Go.Proofs.YtkonljiembcdlaaW.PrintLast Go.Proofs.YtkonljiembcdlaaW.PrintMore
attribute [local go_sem] max2_int min2_int max_two min_two max_three min_three max_four min_four   -- for this text's walks alone
set_option linter.unusedVariables false
set_option linter.unusedSimpArgs false
attribute [local go_sem] eqGuard_slices eqlnil23 neqnil23 eqlnil58 neqnil58
def bellpulllaw05_cut.f (l0:List Int):Option (List Int):=(some (([]:List Int):List Int)).bind fun y351=>(if 0 ≤ (mn (l0.length:Int) 4) then (if (mn (l0.length:Int) 4) ≤ (l0.length:Int) then ((some (l0.take ((mn (l0.length:Int) 4):Int).toNat:List Int)).bind fun y354=>(if y351.length + y354.length < 17592186044416 then (some (y351 ++ y354)) else (none))) else (none)) else (none))
set_option maxHeartbeats 8000000 in
set_option maxRecDepth 100000 in
theorem bellpulllaw05_cut.calls (A0:Option Addr) (Y:Nat) (D:List Int) (r:List Int) (w:World) (a8:Kd.C (Kd.int .i64) w A0 D.length D) (a9:D.length ≤ Y) (h:bellpulllaw05_cut.f D=some r) :
    Calls Try.prog 18 #[.slice A0 D.length Y] w fun e w'=>∃ b0:Value,e=.returned (b0)∧Kd.R (Kd.int .i64) 3 w' w.heap.size (fun _=>True) b0 r∧Below w.heap.size w w':=by
 have b7:=mk0 a8;have b8:=mk0 a9;clear a8 a9;have O:=mk0 (Below.refl w.heap.size w);have H:((some (([]:List Int):List Int)).bind fun F=>(if 0 ≤ (mn (D.length:Int) 4) then (if (mn (D.length:Int) 4) ≤ (D.length:Int) then ((some (D.take ((mn (D.length:Int) 4):Int).toNat:List Int)).bind fun B=>(if F.length + B.length < 17592186044416 then (some (F ++ B)) else (none))) else (none)) else (none)))=some r:=h;clear h;obtain ⟨F,I⟩:∃ y_:List Int,y_=(([]:List Int)):=⟨_,rfl⟩
 replace H:(if 0 ≤ (mn (D.length:Int) 4) then (if (mn (D.length:Int) 4) ≤ (D.length:Int) then ((some (D.take ((mn (D.length:Int) 4):Int).toNat:List Int)).bind fun B=>(if F.length + B.length < 17592186044416 then (some (F ++ B)) else (none))) else (none)) else (none))=some r:=by first|(rw [I];with_reducible exact H)|(have G:=(Option.bind_some _ _).symm.trans H;rw [I];with_reducible exact G)|(have G:=(Option.bind_some _ _).symm.trans H;with_reducible exact G)|with_reducible exact H|(rw [I];exact H)|exact H
 have U:=mk0 I;clear I;obtain ⟨E,M⟩:∃ j_:Int,(mn (D.length:Int) 4)=j_:=⟨_,rfl⟩
 replace H:(if 0 ≤ (E) then (if (E) ≤ (D.length:Int) then ((some (D.take ((E):Int).toNat:List Int)).bind fun B=>(if F.length + B.length < 17592186044416 then (some (F ++ B)) else (none))) else (none)) else (none))=some r:=by first|(rw [M] at H;exact H)|(simp only [M] at H ⊢;exact H)
 (try (have hji2h:E ≤ 4:=by (rw [← M];unfold mn;(repeat' split) <;> omega)));(try (have hji2g:E ≤ 64:=by omega));(try (have hji2l:0 ≤ E:=by (rw [← M];unfold mn;(repeat' split) <;> omega)));(try (have hji2m:0 ≤ E:=by omega));have b9:(if 4 < (D.length:Int) then 4 else (D.length:Int))=E:=M
 by_cases c3:0 ≤ (E)
 ·
  rw [if_pos c3] at H;have c3b0:=eq_true c3;have c3b1:decide (0 ≤ (E))=true:=decide_eq_true c3;clear c3
  by_cases c4:(E) ≤ (D.length:Int)
  ·
   rw [if_pos c4] at H;have c4b0:=eq_true c4;have c4b1:decide ((E) ≤ (D.length:Int))=true:=decide_eq_true c4;clear c4;obtain ⟨B,J⟩:∃ y_:List Int,y_=(D.take ((E):Int).toNat):=⟨_,rfl⟩
   replace H:(if F.length + B.length < 17592186044416 then (some (F ++ B)) else (none))=some r:=by first|(rw [J];with_reducible exact H)|(have G:=(Option.bind_some _ _).symm.trans H;rw [J];with_reducible exact G)|(have G:=(Option.bind_some _ _).symm.trans H;with_reducible exact G)|with_reducible exact H|(rw [J];exact H)|exact H
   have V:=mk0 J;clear J
   by_cases c5:F.length + B.length < 17592186044416
   ·
    rw [if_pos c5] at H;have b2:=mk0 c5;clear c5;obtain ⟨b3,L⟩:∃ y_:List Int,y_=(F ++ B):=⟨_,rfl⟩
    replace H:(some b3)=some r:=by first|(rw [L];with_reducible exact H)|(have G:=(Option.bind_some _ _).symm.trans H;rw [L];with_reducible exact G)|(have G:=(Option.bind_some _ _).symm.trans H;with_reducible exact G)|with_reducible exact H|(rw [L];exact H)|exact H
    have a3:=mk0 L;clear L;obtain rfl:=Option.some.inj H;go_enter Try.func18,Try.ntmps18;go_wp2_with (first|((with_reducible refine gate_dst (N:=3) rfl ?_);refine Kd.R_lit (Kd.int .i64) _ 3 ?hg (N:=3) ?hd (xs:=([]:List Int)) (inner:=[]) (ok:=fun _=>True) (okp:=fun _=>True) ?hr ?hp (fun _ hk=>hk) trivial (Below.refl _ _) (Nat.le_refl _) (by simp) ?_;(case hd=>rfl);(case hg=>rfl);(case hr=>first|(go_simp;done)|(go_simp;rfl));(case hp=>exact (Reps.none _ _));intro b4 w6 Q hb hg_ a4;clear hg_ a4;(first|rw [← U.1] at Q|(simp only [Int.reduceToNat] at Q;rw [← U.1] at Q));have X:=mk0 (Kd.R_lower Q (below_size O.1));replace O:=bst O hb;clear hb Q;have q8:((E):Int) ≤ ((D.length:Int):Int):=of_decide_eq_true (by first|(with_reducible assumption)|assumption);obtain ⟨c6,Z,_,b6,_⟩:=info_parts info3;have T:D.length ≤ Y:=b8.1;have b1:Kd.C (Kd.int .i64) _ A0 D.length D:=b7.1;have a5:=cut_to (P:=Try.prog) 23 3 .i64 Try.underlying23 Z A0 D.length Y (E) (of_decide_eq_true (by first|(with_reducible assumption)|assumption)) q8 T;have a0:=Kd.C_take (m:=((E):Int).toNat) b1 (by omega);have a1:B.length=((E):Int).toNat:=(by rw [V.1,l1_];omega);rw [← V.1] at a0;rw [← a1] at a5;have a6:=mk0 a0;have c1:=mk0 (show B.length ≤ Y from by omega);clear a0 b1 T Z b6;have c7:=mk0 a1;clear a1;replace q8:=eq_true q8)|((with_reducible refine gate_builtin (b:=.append) (xs:=#[.tmp 3,.tmp 8]) rfl ?_);at_builtin;refine Kd.R_append_rows (Kd.int .i64) (w0:=w) w.heap.size rfl (.tmp 3) (.tmp 8) 23 3 (.int .i64 0) 8 rfl Try.underlying23 info3 rfl (by decide) (by omega) b4 F B _ _ _ (fun _=>True) (fun _=>False) rfl rfl ?aO ?aR (fun _ _ h=>h) (fun _ h=>h.elim) ?aF ?aB ?aS ?aL ?_;(case aR=>repeat (first|exact (Kd.C_below a6.1 O.1)|(with_reducible refine Kd.C_alloc ?_ _)|(with_reducible refine Kd.C_drewN ?_ _)|(with_reducible refine Kd.C_drew ?_)));(case aB=>exact (by repeat (first|(with_reducible first|exact O.1|apply below_alloc|apply pw_below_drewN|apply below_drew1)|exact O.1)));(case aF=>exact (fun _ _=>trivial));(case aO=>exact (by (with_reducible repeat (first|apply Kd.R_alloc|apply Kd.R_drewN|apply Kd.R_drew));exact X.1));(case aS=>exact (below_size (by repeat (first|(with_reducible first|exact O.1|apply below_alloc|apply pw_below_drewN|apply below_drew1)|exact O.1))));(case aL=>have:=b2.1;omega);intro c2 w9 ho hb hg hat;rw [← a3.1] at ho;have a7:=mk0 (ho);replace O:=mk0 (hb);clear X;clear ho hb hg hat));go_ret;exact ⟨_,by first|rfl|(simp [errW_none,errW_some] <;> rfl)|(simp only [← M];first|rfl|(simp [errW_none,errW_some] <;> rfl))|(simp [*,errW_none,errW_some] <;> rfl),by (with_reducible repeat (first|apply Kd.R_alloc|apply Kd.R_drewN|apply Kd.R_drew));exact a7.1,by repeat (first|(with_reducible first|exact O.1|apply below_alloc|apply pw_below_drewN|apply below_drew1)|exact O.1)⟩
   ·
    rw [if_neg c5] at H;exact absurd H (by simp)
  ·
   rw [if_neg c4] at H;exact absurd H (by simp)
 ·
  rw [if_neg c3] at H;exact absurd H (by simp)
end Go.Proofs.Ytkonljiembcdlaa.PC
namespace Go.Proofs.Ytkonljiembcdlaa.PC
open Go.Proofs.MyWords Go.RowKit Go.Proofs.YtkonljiembcdlaaW.PrintWords Go.Proofs.YtkonljiembcdlaaW.PrintLast Go.Proofs.YtkonljiembcdlaaW.PrintMore
attribute [local go_sem] max2_int min2_int max_two min_two max_three min_three max_four min_four   -- for this text's walks alone
set_option linter.unusedVariables false
set_option linter.unusedSimpArgs false
attribute [local go_sem] eqGuard_slices eqlnil23 neqnil23 eqlnil58 neqnil58
mutual
def bellpulllaw05_few.l0:Nat → List (S60) → List (S60) → Int → Option ((List (S60)))
  | 0,_,_,_=>none
  | k + 1,x0,x3,x4=>if x4 < (x0.length:Int) then (bellpulllaw05_few.j1 k x0 x3 x4 (decide (x4 ≤ 8))) else (bellpulllaw05_few.j1 k x0 x3 x4 false)
def bellpulllaw05_few.j1:Nat → List (S60) → List (S60) → Int → Bool → Option ((List (S60)))
  | 0,_,_,_,_=>none
  | k + 1,x0,x3,x4,x16=>if x16=true then (if 0 ≤ x4 then (if x4 < (x0.length:Int) then ((bellpulllaw05_cut.f ((rd_T60 x0 x4).f0)).bind fun t365=>(bellpulllaw05_few.l1 k x0 x3 x4 0 t365 ([]:List (List Int)))) else (none)) else (none)) else (some x3)
def bellpulllaw05_few.l1:Nat → List (S60) → List (S60) → Int → Int → List Int → List (List Int) → Option ((List (S60)))
  | 0,_,_,_,_,_,_=>none
  | k + 1,x0,x3,x4,x6,x369000,x369001=>if 0 ≤ x4 then (if x4 < (x0.length:Int) then (if x6 < (((rd_T60 x0 x4).f1).length:Int) then (if x6 ≤ 4 then (if 0 ≤ x6 then ((bellpulllaw05_cut.f (rd_L1 ((rd_T60 x0 x4).f1) x6)).bind fun t372=>(if x369001.length < 5864062014805 then (bellpulllaw05_few.l1 k x0 x3 x4 (wrap64 (x6 + 1)) x369000 (x369001 ++ [t372])) else (none))) else (none)) else (if x3.length < 2932031007402 then (bellpulllaw05_few.l0 k x0 (x3 ++ [(⟨x369000,x369001⟩:S60)]) (wrap64 (x4 + 1))) else (none))) else (if x3.length < 2932031007402 then (bellpulllaw05_few.l0 k x0 (x3 ++ [(⟨x369000,x369001⟩:S60)]) (wrap64 (x4 + 1))) else (none))) else (none)) else (none)
end
def bellpulllaw05_few.f (k:Nat) (l0:List (S60)):Option ((List (S60))):=bellpulllaw05_few.l0 k l0 (([]:List (S60))) 0
theorem bellpulllaw05_few.mono_l:∀ k,(∀ y0 y1 y2,LeO (bellpulllaw05_few.l0 k y0 y1 y2) (bellpulllaw05_few.l0 (k + 1) y0 y1 y2))∧(∀ y0 y1 y2 y3,LeO (bellpulllaw05_few.j1 k y0 y1 y2 y3) (bellpulllaw05_few.j1 (k + 1) y0 y1 y2 y3))∧(∀ y0 y1 y2 y3 y4 y5,LeO (bellpulllaw05_few.l1 k y0 y1 y2 y3 y4 y5) (bellpulllaw05_few.l1 (k + 1) y0 y1 y2 y3 y4 y5))
  | 0=>⟨fun _ _ _ r h=>by simp [bellpulllaw05_few.l0] at h,fun _ _ _ _ r h=>by simp [bellpulllaw05_few.j1] at h,fun _ _ _ _ _ _ r h=>by simp [bellpulllaw05_few.l1] at h⟩
  | k + 1=>by
    obtain ⟨ih0,ih1,ih2⟩:=bellpulllaw05_few.mono_l k
    refine ⟨?_,?_,?_⟩
    · intro y0 y1 y2
      unfold bellpulllaw05_few.l0
      with_reducible repeat' first|exact ih0 _ _ _|exact ih1 _ _ _ _|exact ih2 _ _ _ _ _ _|exact LeO.refl _|exact LeO.none _|refine LeO.ite ?_ ?_|refine LeO.bind ?_ (fun _=>?_)
    · intro y0 y1 y2 y3
      unfold bellpulllaw05_few.j1
      with_reducible repeat' first|exact ih0 _ _ _|exact ih1 _ _ _ _|exact ih2 _ _ _ _ _ _|exact LeO.refl _|exact LeO.none _|refine LeO.ite ?_ ?_|refine LeO.bind ?_ (fun _=>?_)
    · intro y0 y1 y2 y3 y4 y5
      unfold bellpulllaw05_few.l1
      with_reducible repeat' first|exact ih0 _ _ _|exact ih1 _ _ _ _|exact ih2 _ _ _ _ _ _|exact LeO.refl _|exact LeO.none _|refine LeO.ite ?_ ?_|refine LeO.bind ?_ (fun _=>?_)
theorem bellpulllaw05_few.mono:∀ a0 k,LeO (bellpulllaw05_few.f k a0) (bellpulllaw05_few.f (k + 1) a0):=by
  intro a0 k
  obtain ⟨ih0,ih1,ih2⟩:=bellpulllaw05_few.mono_l k
  unfold bellpulllaw05_few.f
  with_reducible repeat' first|exact ih0 _ _ _|exact ih1 _ _ _ _|exact ih2 _ _ _ _ _ _|exact LeO.refl _|exact LeO.none _|refine LeO.ite ?_ ?_|refine LeO.bind ?_ (fun _=>?_)
set_option maxHeartbeats 8000000 in
set_option maxRecDepth 100000 in
theorem bellpulllaw05_few.calls (k:Nat) (A0:Option Addr) (c0:Nat) (X:List (S60)) (r:List (S60)) (w:World) (m1:Kd.C k60 w A0 X.length X) (m2:X.length ≤ c0) (h:bellpulllaw05_few.f k X=some r) :
    Calls Try.prog 17 #[.slice A0 X.length c0] w fun e w'=>∃ m3:Value,e=.returned (m3)∧Kd.R k60 60 w' w.heap.size (fun _=>True) m3 r∧Below w.heap.size w w':=by
 have q8:=Try.underlying60;have f6:=mk0 m1;have r9:=mk0 m2;clear m1 m2;have I:=mk0 (Below.refl w.heap.size w);have H:(bellpulllaw05_few.l0 k X (([]:List (S60))) 0)=some r:=h;clear h;obtain ⟨i3,b2⟩:∃ y_:List (S60),y_=(([]:List (S60))):=⟨_,rfl⟩
 replace H:(bellpulllaw05_few.l0 k X i3 0)=some r:=by first|(rw [b2];with_reducible exact H)|(have a5:=(Option.bind_some _ _).symm.trans H;rw [b2];with_reducible exact a5)|(have a5:=(Option.bind_some _ _).symm.trans H;with_reducible exact a5)|with_reducible exact H|(rw [b2];exact H)|exact H
 have h2:=mk0 b2;clear b2;have H':=mk0 H;clear H;go_enter Try.func17,Try.ntmps17;go_wp2_with (first|((with_reducible refine gate_dst (N:=8) rfl ?_);refine Kd.R_lit k60 _ 60 ?hg (N:=8) ?hd (xs:=([]:List (S60))) (inner:=[]) (ok:=fun _=>True) (okp:=fun _=>True) ?hr ?hp (fun _ hk=>hk) trivial (Below.refl _ _) (Nat.le_refl _) (by simp) ?_;(case hd=>rfl);(case hg=>rfl);(case hr=>first|(go_simp;done)|(go_simp;rfl));(case hp=>exact (Reps.none _ _));intro q9 w2 f7 hb hg_ j7;clear hg_ j7;(first|rw [← h2.1] at f7|(simp only [Int.reduceToNat] at f7;rw [← h2.1] at f7));have j8:=mk0 (Kd.R_lower f7 (below_size I.1));replace I:=bst I hb;clear hb f7))
 go_loopg [3,4] k (fun kq v3 v4 w'=>∃ (Z:List (S60)) (D:Int),v4=.int .i64 D∧Aside0 (bellpulllaw05_few.l0 kq X Z D=some r)∧Aside0 (kq ≤ k)∧Aside0 (Kd.R k60 60 w' w.heap.size (fun _=>True) v3 Z)∧Aside0 (Below w.heap.size w w'))
 case atStart=>exact ⟨(i3),(0),(by first|rfl|(simp;done)|(simp [*];done)),H',⟨Nat.le_refl _⟩,⟨by exact j8.1⟩,⟨by exact I.1⟩⟩
 case round =>
  clear H';try clear c1
  try clear p2
  obtain ⟨Z,D,rfl,HA,c4,M,I⟩:=hrel;cases gk with
  | zero=>exact absurd HA.1 (by simp [bellpulllaw05_few.l0])
  | succ k1 =>
   have H:=HA.1;clear HA;simp only [bellpulllaw05_few.l0] at H;have i4:=mk0 H;clear H;go_upto_region 3 with (fail)
   go_cut [16] (fun p8 wc=>∃ (kq:Nat) (c9:Bool),p8=.bool c9∧Aside0 (bellpulllaw05_few.j1 kq X Z D c9=some r)∧Aside0 (kq ≤ k1)∧Aside0 (Kd.R k60 60 wc w.heap.size (fun _=>True) u3 Z)∧Aside0 (Below w.heap.size w wc))
   case first =>
    have H:=i4.1;clear i4
    by_cases c5:D < (X.length:Int)
    ·
     rw [if_pos c5] at H;have c5b0:decide (D < (X.length:Int))=true:=decide_eq_true c5;clear c5;(first|rw [c5b0]|(simp only [i64_w,i32_w];rw [c5b0])|skip);have H':=mk0 H;clear H;go_wp2;go_meet
     case rel=>exact ⟨_,(decide (D ≤ 8)),(by first|rfl|(simp;done)|(simp [*];done)),H',⟨by have:=c4.1;first|omega|exact Nat.le_refl _⟩,⟨by exact M.1⟩,⟨by exact I.1⟩⟩
    ·
     rw [if_neg c5] at H;have c5b0:decide (D < (X.length:Int))=false:=decide_eq_false c5;clear c5;(first|rw [c5b0]|(simp only [i64_w,i32_w];rw [c5b0])|skip);have H':=mk0 H;clear H;go_wp2;go_meet
     case rel=>exact ⟨_,(false),(by first|rfl|(simp;done)|(simp [*];done)),H',⟨by have:=c4.1;first|omega|exact Nat.le_refl _⟩,⟨by exact M.1⟩,⟨by exact I.1⟩⟩
   case rest =>
    clear i4;try clear c1
    try clear p2
    try clear c5
    try clear c5b0
    try clear p2
    obtain ⟨kq,c9,rfl,HA,d4,M,I⟩:=hcut;cases kq with
    | zero=>exact absurd HA.1 (by simp [bellpulllaw05_few.j1])
    | succ kj3 =>
     have H:=HA.1;clear HA;simp only [bellpulllaw05_few.j1] at H
     by_cases c6:c9=true
     ·
      subst c6;have H1:(if 0 ≤ D then (if D < (X.length:Int) then ((bellpulllaw05_cut.f ((rd_T60 X D).f0)).bind fun G=>(bellpulllaw05_few.l1 kj3 X Z D 0 G ([]:List (List Int)))) else (none)) else (none))=some r:=by rw [if_pos rfl] at H;exact H
      clear H;have H:=H1;clear H1
      by_cases c7:0 ≤ D
      ·
       rw [if_pos c7] at H;have c7b0:decide (0 ≤ D)=true:=decide_eq_true c7;clear c7
       by_cases c8:D < (X.length:Int)
       ·
        rw [if_pos c8] at H;have c8b0:decide (D < (X.length:Int))=true:=decide_eq_true c8;clear c8;replace H:=Option.bind_eq_some_iff.mp H;obtain ⟨G,m4,H⟩:=H;(try dsimp only at H);have A9:=mk0 m4;clear m4;have H':=mk0 H;clear H;have f2:0 ≤ (D:Int):=of_decide_eq_true (by assumption);have f3:D < (X.length:Int):=of_decide_eq_true (by assumption);obtain ⟨d0,i8,i9,p9,q0,m5,a8,a9,d5,d6,d7,d8⟩:=at_T60 f6.1 D f2 f3;cases m5;replace a8:=bd_ I a8;replace a9:=bd_ I a9;have h4:=mk0 d6;have h5:=mk0 d5;clear d6 d5;have n3:=mk0 d8;have n4:=mk0 d7;clear d8 d7;replace f2:=eq_true f2;replace f3:=eq_true f3;go_wp2_with (first|((with_reducible refine gate_callee (f:=18) rfl ?_);refine goesL_ (some 24) rfl rfl Try.func18 (by kernel_rfl) rfl #[.slice i8 ((rd_T60 X D).f0).length i9] rfl (by (try simp only [m0_,m1_,m2_]);first|done|rfl|(simp only [l0_,l1_];rfl)) ?_;(with_reducible refine (bellpulllaw05_cut.calls _ _ ((rd_T60 X D).f0) G _ ?side1 ?side2 A9.1).mono ?_);(case side1=>repeat (first|exact (Kd.C_below h4.1 I.1)|(with_reducible refine Kd.C_alloc ?_ _)|(with_reducible refine Kd.C_drewN ?_ _)|(with_reducible refine Kd.C_drew ?_)));(case side2=>exact h5.1);rintro e s0 ⟨r3,rfl,b3,hb⟩;refine ⟨_,rfl,?_⟩;have d1:=mk0 (Kd.R_lower b3 (below_size I.1));replace M:=mk0 (Kd.R_elder' M.1 (Kd.R_base b3) hb);replace I:=bst I hb;(try clear hb);(try clear b3);obtain ⟨T,U,m6⟩:=Kd.R_slice d1.1;subst m6)|((with_reducible refine gate_dst (N:=5) rfl ?_);refine box_event ?hg (N:=5) ?hd (cs:=#[.slice none 0 0,.slice none 0 0]) (t:=60) ?hr ?_;(case hd=>rfl);(case hg=>rfl);(case hr=>first|(go_simp;done)|(go_simp;rfl));intro J hg s1 j0 hb;have B:=mk0 (j0);have j9:=szw hg I;have a4:=j9;replace M:=mk0 (Kd.R_below (Kd.R_elderB M.1 J (Nat.le_of_eq hg.symm)) hb);replace d1:=rbl d1 hb;replace I:=bst I hb;clear hb j0 hg;have h6:=q0_ B;have h7:=q1_ B;have h8:=blk_frozen B.1 0;have h9:=blk_frozen B.1 1))
        go_loopg [6] kj3 (fun kq v6 w'=>∃ (V:Int) (E:List (List Int)) (Y:Value),v6=.int .i64 V∧Aside0 (bellpulllaw05_few.l1 kq X Z D V G E=some r)∧Aside0 (kq ≤ kj3)∧Aside0 (Kd.R k60 60 w' w.heap.size (fun k_=>some k_ ≠ ((.slice T G.length U):Value).ownBlock∧some k_ ≠ (Y:Value).ownBlock∧k_ ≠ J) u3 Z)∧Aside0 (Kd.R (Kd.int .i64) 3 w' w.heap.size (fun _=>True) (.slice T G.length U) G)∧Aside0 (Kd.S (Kd.slice 3 (Kd.int .i64)) 23 w' w.heap.size (fun k_=>some k_ ≠ ((.slice T G.length U):Value).ownBlock) Y E)∧Aside0 (w'.heap[J]?=some (.cells #[(.slice T G.length U),Y] 60 (0,0)))∧Aside0 (Below w.heap.size w w'))
        case atStart=>exact ⟨(0),(([]:List (List Int))),(.slice none 0 0),(by first|rfl|(simp;done)|(simp [*];done)),H',⟨Nat.le_refl _⟩,⟨by exact Kd.R_mono (Kd.R_far (p:=⟨J,1,none⟩) (Kd.R_far (p:=⟨J,0,none⟩) (Kd.R_mono M.1 (fun k_ hk=>(⟨hk,hk.2⟩:_∧k_ ≠ J))) (fun _ hk=>hk.2) (.slice T G.length U)) (fun _ hk=>hk.2) (.slice none 0 0)) (fun _ hk=>⟨hk.1.1.2,⟨(by simp [Value.ownBlock]),hk.1.2⟩⟩)⟩,⟨by exact Kd.R_mono (Kd.R_far (p:=⟨J,1,none⟩) (Kd.R_far (p:=⟨J,0,none⟩) (Kd.R_types d1.1 B.1 (by decide)) (fun _ hk=>hk.2) (.slice T G.length U)) (fun _ hk=>hk.2) (.slice none 0 0)) (fun _ hk=>trivial)⟩,⟨by first|exact Kd.S_nil _ _ _ _ _|exact Kd.N_nil _ _ _ _ _|exact Kd.V_nil _ _ _ _ _|exact Kd.Q_nil _ _ _ _ _|exact Kd.R_nil _ _ _ _ _⟩,⟨by refine blk_put (cs:=#[.slice T G.length U,.slice none 0 0]) ?_ 1 _ rfl;refine blk_put (cs:=#[.slice none 0 0,.slice none 0 0]) ?_ 0 _ rfl;exact B.1⟩,⟨by repeat (first|(with_reducible first|exact I.1|apply below_alloc|apply pw_below_drewN|apply below_drew1|refine below_set ?_ a4.1)|exact I.1)⟩⟩
        case round =>
         clear H';try clear c1
         try clear p2
         try clear c3
         try clear p3
         try clear q3
         try clear hx3
         try clear c5
         try clear c5b0
         try clear c6
         try clear c7
         try clear c7b0
         try clear c8
         try clear c8b0
         try clear h6
         try clear h7
         try clear h8
         try clear h9
         try clear a8
         try clear a9
         try clear p2
         try clear f2
         try clear f3
         obtain ⟨V,E,Y,rfl,HA,d9,M,L,F,B,I⟩:=hrel;cases gk with
         | zero=>exact absurd HA.1 (by simp [bellpulllaw05_few.l1])
         | succ k3 =>
          have H:=HA.1;clear HA;simp only [bellpulllaw05_few.l1] at H
          by_cases c14:0 ≤ D
          ·
           rw [if_pos c14] at H;have c14b0:decide (0 ≤ D)=true:=decide_eq_true c14;clear c14
           by_cases c15:D < (X.length:Int)
           ·
            rw [if_pos c15] at H;have c15b0:decide (D < (X.length:Int))=true:=decide_eq_true c15;clear c15
            by_cases c16:V < (((rd_T60 X D).f1).length:Int)
            ·
             rw [if_pos c16] at H;have c16b0:decide (V < (((rd_T60 X D).f1).length:Int))=true:=decide_eq_true c16;clear c16
             by_cases c17:V ≤ 4
             ·
              rw [if_pos c17] at H;have c17b0:decide (V ≤ 4)=true:=decide_eq_true c17;clear c17
              by_cases c18:0 ≤ V
              ·
               rw [if_pos c18] at H;have c18b0:decide (0 ≤ V)=true:=decide_eq_true c18;clear c18;replace H:=Option.bind_eq_some_iff.mp H;obtain ⟨b8,j2,H⟩:=H;(try dsimp only at H);have q1:=mk0 j2;clear j2
               by_cases c20:E.length < 5864062014805
               ·
                rw [if_pos c20] at H;have l2:=mk0 c20;clear c20;obtain ⟨b9,b4⟩:∃ y_:List (List Int),y_=(E ++ [b8]):=⟨_,rfl⟩
                replace H:(bellpulllaw05_few.l1 k3 X Z D (wrap64 (V + 1)) G b9)=some r:=by first|(rw [b4];with_reducible exact H)|(have a5:=(Option.bind_some _ _).symm.trans H;rw [b4];with_reducible exact a5)|(have a5:=(Option.bind_some _ _).symm.trans H;with_reducible exact a5)|with_reducible exact H|(rw [b4];exact H)|exact H
                have l3:=mk0 b4;clear b4;have H':=mk0 H;clear H;have a6:0 ≤ (D:Int):=of_decide_eq_true (by assumption);have a7:D < (X.length:Int):=of_decide_eq_true (by assumption);obtain ⟨b5,f8,f9,g0,g1,d3,O,Q,a0,a1,a2,a3⟩:=at_T60 f6.1 D a6 a7;obtain rfl:d0=b5:=(by injection d3)
                replace O:=bd_ I O;replace Q:=bd_ I Q;have e0:=mk0 a1;have e1:=mk0 a0;clear a1 a0;have e2:=mk0 a3;have e3:=mk0 a2;clear a3 a2;replace a6:=eq_true a6;replace a7:=eq_true a7;have n5:=q0_ B;have n6:=q1_ B;have n7:=blk_frozen B.1 0;have n8:=blk_frozen B.1 1;have g2:0 ≤ (D:Int):=of_decide_eq_true (by assumption);have g3:D < (X.length:Int):=of_decide_eq_true (by assumption);obtain ⟨l4,q2,q4,q5,q6,m7,b0,b1,e4,e5,e6,e7⟩:=at_T60 f6.1 D g2 g3;obtain rfl:d0=l4:=(by injection m7)
                replace b0:=bd_ I b0;replace b1:=bd_ I b1;have n9:=mk0 e5;have o0:=mk0 e4;clear e5 e4;have i0:=mk0 e7;have o1:=mk0 e6;clear e7 e6;replace g2:=eq_true g2;replace g3:=eq_true g3;have ea_:=Option.some.inj (O.symm.trans b0);injection ea_ with ea_ en_ ec_;subst ea_;subst ec_;clear en_;have ea_:=Option.some.inj (Q.symm.trans b1);injection ea_ with ea_ en_ ec_;subst ea_;subst ec_;clear en_;have g4:0 ≤ (V:Int):=of_decide_eq_true (by assumption);have g5:V < (((rd_T60 X D).f1).length:Int):=of_decide_eq_true (by assumption);obtain ⟨q7,j3,j4,m8,c2,e8,e9⟩:=at_L1 i0.1 V g4 g5;cases m8;replace c2:=bd_ I c2;have i1:=mk0 e9;have i2:=mk0 e8;clear e9 e8;replace g4:=eq_true g4;replace g5:=eq_true g5;go_wp2_with (first|((with_reducible refine gate_callee (f:=18) rfl ?_);refine goesL_ (some 51) rfl rfl Try.func18 (by kernel_rfl) rfl #[.slice j3 (rd_L1 ((rd_T60 X D).f1) V).length j4] rfl (by (try simp only [m0_,m1_,m2_]);first|done|rfl|(simp only [l0_,l1_];rfl)) ?_;(with_reducible refine (bellpulllaw05_cut.calls _ _ (rd_L1 ((rd_T60 X D).f1) V) b8 _ ?side1 ?side2 q1.1).mono ?_);(case side1=>repeat (first|exact (Kd.C_below i1.1 I.1)|(with_reducible refine Kd.C_alloc ?_ _)|(with_reducible refine Kd.C_drewN ?_ _)|(with_reducible refine Kd.C_drew ?_)));(case side2=>exact i2.1);rintro e s2 ⟨r5,rfl,b3,hb⟩;refine ⟨_,rfl,?_⟩;have d2:=mk0 (Kd.R_lower (Kd.R_new' b3 (Kd.R_lt L.1)) (below_size I.1));replace M:=mk0 (Kd.R_elder' M.1 (Kd.R_base b3) hb);replace L:=mk0 (Kd.R_elder' L.1 (Kd.R_base b3) hb);replace F:=mk0 (Kd.S_elder' F.1 (Kd.R_base b3) hb);replace B:=bkb B hb;replace I:=bst I hb;(try clear hb);(try clear hk);(try clear b3);obtain ⟨g6,g7,m9⟩:=Kd.R_slice d2.1;subst m9)|((with_reducible refine gate_builtin (b:=.append) (xs:=#[.tmp 42,.tmp 52]) rfl ?_);at_builtin;refine Kd.S_append (Kd.slice 3 (Kd.int .i64)) (w0:=w) w.heap.size rfl (.tmp 42) (.tmp 52) 58 23 (.slice none 0 0) 24 rfl Try.underlying58 info23 rfl (by decide) (by omega) Y E b8 [.slice g6 b8.length g7] (fun k_=>some k_ ≠ (.slice T G.length U:Value).ownBlock) (fun k_=>some k_=(.slice g6 b8.length g7:Value).ownBlock) rfl rfl ?aP (fun k_ hk_=>((Kd.R_mono (ok':=fun k_=>((fun k_=>some k_ ≠ (.slice T G.length U:Value).ownBlock)) k_∧some k_ ≠ (Y:Value).ownBlock) (Kd.R_apart' (d2.1) (Kd.S_typed F.1) (by decide)) (fun k_ hk=>⟨hk.1.2,hk.2⟩))).1 k_ hk_.symm) ?aF ?aO ?aB ?aS ?aL ?_;(case aP=>exact Kd.M_row (Kd.R_mono (Kd.R_tight rfl (Kd.R_mono (ok':=fun k_=>((fun k_=>some k_ ≠ (.slice T G.length U:Value).ownBlock)) k_∧some k_ ≠ (Y:Value).ownBlock) (Kd.R_apart' (d2.1) (Kd.S_typed F.1) (by decide)) (fun k_ hk=>⟨hk.1.2,hk.2⟩))) (fun _ h_=>h_)));(case aB=>exact (by repeat (first|(with_reducible first|exact I.1|apply below_alloc|apply pw_below_drewN|apply below_drew1|refine below_set ?_ a4.1)|exact I.1)));(case aF=>exact (fun k_ hk=>Kd.fresh' (Kd.R_lt (by exact L.1)) k_ hk));(case aO=>exact (by exact Kd.S_mono F.1 (fun k_ hk=>⟨hk.1,fun e_=>hk.2 e_⟩)));(case aS=>exact (below_size (by repeat (first|(with_reducible first|exact I.1|apply below_alloc|apply pw_below_drewN|apply below_drew1|refine below_set ?_ a4.1)|exact I.1))));(case aL=>have:=l2.1;omega);intro r6 s3 ho hb hg hat;rw [← l3.1] at ho;have h3:=mk0 (ho);replace M:=mk0 (Kd.R_after (ok:=(fun k_=>some k_ ≠ (.slice T G.length U:Value).ownBlock∧some k_ ≠ (.slice g6 b8.length g7:Value).ownBlock∧k_ ≠ J)) (by exact Kd.R_mono M.1 (fun _ hk=>⟨⟨hk.1.1,⟨hk.2,hk.1.2.2⟩⟩,hk.1.2.1⟩)) hg hat);replace L:=mk0 (Kd.R_over' (by exact L.1) (Kd.S_typed (by exact F.1)) (by decide) hg);replace B:=mk0 (blk_grown (g:=J) (o:=.cells #[.slice T G.length U,Y] 60 (0,0)) (by (with_reducible repeat (first|refine blk_drewN ?_ _|refine blk_drew ?_|refine blk_alloc ?_ _));exact B.1) hg (Kd.S_ne F.1 B.1 (by decide)));replace I:=mk0 (hb);clear F;clear d2;clear ho hb hg hat;obtain ⟨f4,f5,n0⟩:=Kd.S_slice h3.1;subst n0;have o2:=q0_ B;have o3:=q1_ B;have o4:=blk_frozen B.1 0;have o5:=blk_frozen B.1 1))
                go_roundg k3
                case measure=>have:=c4.1;have:=d4.1;have:=d9.1;omega
                case rel=>exact ⟨(wrap64 (V + 1)),(b9),(.slice f4 b9.length f5),(by first|rfl|(simp;done)|(simp [*];done)),H',⟨by have:=c4.1;have:=d4.1;have:=d9.1;omega⟩,⟨by exact Kd.R_mono (Kd.R_far (p:=⟨J,1,none⟩) (Kd.R_mono M.1 (fun k_ hk=>(⟨hk,hk.1.2.2⟩:_∧k_ ≠ J))) (fun _ hk=>hk.2) (.slice f4 b9.length f5)) (fun _ hk=>⟨hk.1.1.1,⟨hk.1.2,hk.1.1.2.2⟩⟩)⟩,⟨by exact Kd.R_mono (Kd.R_far (p:=⟨J,1,none⟩) (Kd.R_types L.1 B.1 (by decide)) (fun _ hk=>hk.2) (.slice f4 b9.length f5)) (fun _ hk=>trivial)⟩,⟨by exact Kd.S_mono (Kd.S_far (p:=⟨J,1,none⟩) (Kd.S_types h3.1 B.1 (by decide)) (fun _ hk=>hk.2) (.slice f4 b9.length f5)) (fun _ hk=>hk.1)⟩,⟨by refine blk_put (cs:=#[.slice T G.length U,Y]) ?_ 1 _ rfl;exact B.1⟩,⟨by repeat (first|(with_reducible first|exact I.1|apply below_alloc|apply pw_below_drewN|apply below_drew1|refine below_set ?_ a4.1)|exact I.1)⟩⟩
               ·
                rw [if_neg c20] at H;exact absurd H (by simp)
              ·
               rw [if_neg c18] at H;exact absurd H (by simp)
             ·
              rw [if_neg c17] at H;have c17b0:decide (V ≤ 4)=false:=decide_eq_false c17;clear c17
              by_cases c27:Z.length < 2932031007402
              ·
               rw [if_pos c27] at H;have l5:=mk0 c27;clear c27;obtain ⟨j5,b6⟩:∃ y_:List (S60),y_=(Z ++ [(⟨G,E⟩:S60)]):=⟨_,rfl⟩
               replace H:(bellpulllaw05_few.l0 k3 X j5 (wrap64 (D + 1)))=some r:=by first|(rw [b6];with_reducible exact H)|(have a5:=(Option.bind_some _ _).symm.trans H;rw [b6];with_reducible exact a5)|(have a5:=(Option.bind_some _ _).symm.trans H;with_reducible exact a5)|with_reducible exact H|(rw [b6];exact H)|exact H
               have l6:=mk0 b6;clear b6;have H':=mk0 H;clear H;have a6:0 ≤ (D:Int):=of_decide_eq_true (by assumption);have a7:D < (X.length:Int):=of_decide_eq_true (by assumption);obtain ⟨b5,f8,f9,g0,g1,d3,O,Q,a0,a1,a2,a3⟩:=at_T60 f6.1 D a6 a7;obtain rfl:d0=b5:=(by injection d3)
               replace O:=bd_ I O;replace Q:=bd_ I Q;have e0:=mk0 a1;have e1:=mk0 a0;clear a1 a0;have e2:=mk0 a3;have e3:=mk0 a2;clear a3 a2;replace a6:=eq_true a6;replace a7:=eq_true a7;have o6:=q0_ B;have o7:=q1_ B;have o8:=blk_frozen B.1 0;have o9:=blk_frozen B.1 1;obtain ⟨g8,g9,n1⟩:=Kd.S_slice F.1;subst n1;go_wp2_with (first|((with_reducible refine gate_builtin (b:=.append) (xs:=#[.tmp 55,.tmp 57]) rfl ?_);at_builtin;refine Kd.R_append k60 (w0:=w) w.heap.size rfl (.tmp 55) (.tmp 57) 22 60 (.agg #[(.slice none 0 0),(.slice none 0 0)]) 48 rfl Try.underlying22 info60 rfl (by decide) (by omega) u3 Z (⟨G,E⟩:S60) [.slice T G.length U,.slice g8 E.length g9] (fun k_=>k_ ≠ J) (fun k_=>((fun k_=>k_ ≠ J)) k_∧some k_ ≠ (u3:Value).ownBlock) rfl rfl ?aP (fun _ hk=>hk) ?aF ?aO ?aB ?aS ?aL ?_;(case aP=>exact k60_mkM _ _ _ (⟨G,E⟩:S60) (Kd.R_mono (Kd.R_types (Kd.R_apart' (L.1) (Kd.R_typed M.1) (by decide)) B.1 (by decide)) (fun k_ hk=>⟨hk.2,hk.1.2⟩)) (Kd.R_mono (Kd.R_types (Kd.R_apart' ((Kd.S_R F.1)) (Kd.R_typed M.1) (by decide)) B.1 (by decide)) (fun k_ hk=>⟨hk.2,hk.1.2⟩)));(case aB=>exact (by repeat (first|(with_reducible first|exact I.1|apply below_alloc|apply pw_below_drewN|apply below_drew1|refine below_set ?_ a4.1)|exact I.1)));(case aF=>exact (fun k_ hk=>Kd.freshB (g:=J) (o:=.cells #[.slice T G.length U,.slice g8 E.length g9] 60 (0,0)) (by (with_reducible repeat (first|refine blk_drewN ?_ _|refine blk_drew ?_|refine blk_alloc ?_ _));exact B.1) k_ hk));(case aO=>exact (by exact Kd.R_mono M.1 (fun _ hk=>hk.2.2)));(case aS=>exact (below_size (by repeat (first|(with_reducible first|exact I.1|apply below_alloc|apply pw_below_drewN|apply below_drew1|refine below_set ?_ a4.1)|exact I.1))));(case aL=>have:=l5.1;omega);intro r7 s4 ho hb hg hat;rw [← l6.1] at ho;have l7:=mk0 (ho);replace B:=mk0 (blk_grown (g:=J) (o:=.cells #[.slice T G.length U,.slice g8 E.length g9] 60 (0,0)) (by (with_reducible repeat (first|refine blk_drewN ?_ _|refine blk_drew ?_|refine blk_alloc ?_ _));exact B.1) hg (Kd.R_away M.1 (fun _ hk=>hk.2.2)));replace I:=mk0 (hb);clear M;clear L;clear F;clear ho hb hg hat));go_roundg k3
               case measure=>have:=c4.1;have:=d4.1;have:=d9.1;omega
               case rel=>exact ⟨(j5),(wrap64 (D + 1)),(by first|rfl|(simp;done)|(simp [*];done)),H',⟨by have:=c4.1;have:=d4.1;have:=d9.1;omega⟩,⟨by exact Kd.R_mono l7.1 (fun _ hk=>trivial)⟩,⟨by repeat (first|(with_reducible first|exact I.1|apply below_alloc|apply pw_below_drewN|apply below_drew1|refine below_set ?_ a4.1)|exact I.1)⟩⟩
              ·
               rw [if_neg c27] at H;exact absurd H (by simp)
            ·
             rw [if_neg c16] at H;have c16b0:decide (V < (((rd_T60 X D).f1).length:Int))=false:=decide_eq_false c16;clear c16
             by_cases c31:Z.length < 2932031007402
             ·
              rw [if_pos c31] at H;have l8:=mk0 c31;clear c31;obtain ⟨j6,b7⟩:∃ y_:List (S60),y_=(Z ++ [(⟨G,E⟩:S60)]):=⟨_,rfl⟩
              replace H:(bellpulllaw05_few.l0 k3 X j6 (wrap64 (D + 1)))=some r:=by first|(rw [b7];with_reducible exact H)|(have a5:=(Option.bind_some _ _).symm.trans H;rw [b7];with_reducible exact a5)|(have a5:=(Option.bind_some _ _).symm.trans H;with_reducible exact a5)|with_reducible exact H|(rw [b7];exact H)|exact H
              have l9:=mk0 b7;clear b7;have H':=mk0 H;clear H;have a6:0 ≤ (D:Int):=of_decide_eq_true (by assumption);have a7:D < (X.length:Int):=of_decide_eq_true (by assumption);obtain ⟨b5,f8,f9,g0,g1,d3,O,Q,a0,a1,a2,a3⟩:=at_T60 f6.1 D a6 a7;obtain rfl:d0=b5:=(by injection d3)
              replace O:=bd_ I O;replace Q:=bd_ I Q;have e0:=mk0 a1;have e1:=mk0 a0;clear a1 a0;have e2:=mk0 a3;have e3:=mk0 a2;clear a3 a2;replace a6:=eq_true a6;replace a7:=eq_true a7;have p0:=q0_ B;have p1:=q1_ B;have p4:=blk_frozen B.1 0;have p5:=blk_frozen B.1 1;obtain ⟨h0,h1,n2⟩:=Kd.S_slice F.1;subst n2;go_wp2_with (first|((with_reducible refine gate_builtin (b:=.append) (xs:=#[.tmp 55,.tmp 57]) rfl ?_);at_builtin;refine Kd.R_append k60 (w0:=w) w.heap.size rfl (.tmp 55) (.tmp 57) 22 60 (.agg #[(.slice none 0 0),(.slice none 0 0)]) 48 rfl Try.underlying22 info60 rfl (by decide) (by omega) u3 Z (⟨G,E⟩:S60) [.slice T G.length U,.slice h0 E.length h1] (fun k_=>k_ ≠ J) (fun k_=>((fun k_=>k_ ≠ J)) k_∧some k_ ≠ (u3:Value).ownBlock) rfl rfl ?aP (fun _ hk=>hk) ?aF ?aO ?aB ?aS ?aL ?_;(case aP=>exact k60_mkM _ _ _ (⟨G,E⟩:S60) (Kd.R_mono (Kd.R_types (Kd.R_apart' (L.1) (Kd.R_typed M.1) (by decide)) B.1 (by decide)) (fun k_ hk=>⟨hk.2,hk.1.2⟩)) (Kd.R_mono (Kd.R_types (Kd.R_apart' ((Kd.S_R F.1)) (Kd.R_typed M.1) (by decide)) B.1 (by decide)) (fun k_ hk=>⟨hk.2,hk.1.2⟩)));(case aB=>exact (by repeat (first|(with_reducible first|exact I.1|apply below_alloc|apply pw_below_drewN|apply below_drew1|refine below_set ?_ a4.1)|exact I.1)));(case aF=>exact (fun k_ hk=>Kd.freshB (g:=J) (o:=.cells #[.slice T G.length U,.slice h0 E.length h1] 60 (0,0)) (by (with_reducible repeat (first|refine blk_drewN ?_ _|refine blk_drew ?_|refine blk_alloc ?_ _));exact B.1) k_ hk));(case aO=>exact (by exact Kd.R_mono M.1 (fun _ hk=>hk.2.2)));(case aS=>exact (below_size (by repeat (first|(with_reducible first|exact I.1|apply below_alloc|apply pw_below_drewN|apply below_drew1|refine below_set ?_ a4.1)|exact I.1))));(case aL=>have:=l8.1;omega);intro r8 s5 ho hb hg hat;rw [← l9.1] at ho;have m0:=mk0 (ho);replace B:=mk0 (blk_grown (g:=J) (o:=.cells #[.slice T G.length U,.slice h0 E.length h1] 60 (0,0)) (by (with_reducible repeat (first|refine blk_drewN ?_ _|refine blk_drew ?_|refine blk_alloc ?_ _));exact B.1) hg (Kd.R_away M.1 (fun _ hk=>hk.2.2)));replace I:=mk0 (hb);clear M;clear L;clear F;clear ho hb hg hat));go_roundg k3
              case measure=>have:=c4.1;have:=d4.1;have:=d9.1;omega
              case rel=>exact ⟨(j6),(wrap64 (D + 1)),(by first|rfl|(simp;done)|(simp [*];done)),H',⟨by have:=c4.1;have:=d4.1;have:=d9.1;omega⟩,⟨by exact Kd.R_mono m0.1 (fun _ hk=>trivial)⟩,⟨by repeat (first|(with_reducible first|exact I.1|apply below_alloc|apply pw_below_drewN|apply below_drew1|refine below_set ?_ a4.1)|exact I.1)⟩⟩
             ·
              rw [if_neg c31] at H;exact absurd H (by simp)
           ·
            rw [if_neg c15] at H;exact absurd H (by simp)
          ·
           rw [if_neg c14] at H;exact absurd H (by simp)
       ·
        rw [if_neg c8] at H;exact absurd H (by simp)
      ·
       rw [if_neg c7] at H;exact absurd H (by simp)
     ·
      replace c6:=Bool.eq_false_iff.mpr c6;subst c6;have H1:(some Z)=some r:=by rw [if_neg (show ¬ (false=true) by decide)] at H;exact H
      clear H;have H:=H1;clear H1;obtain rfl:=Option.some.inj H;go_wp2;go_ret;exact ⟨_,by first|rfl|(simp [errW_none,errW_some] <;> rfl)|(simp [*,errW_none,errW_some] <;> rfl),by exact M.1,by exact I.1⟩
end Go.Proofs.Ytkonljiembcdlaa.PC
namespace Go.Proofs.Ytkonljiembcdlaa.PC
open Go.Proofs.MyWords Go.RowKit Go.Proofs.YtkonljiembcdlaaW.PrintWords Go.Proofs.YtkonljiembcdlaaW.PrintLast Go.Proofs.YtkonljiembcdlaaW.PrintMore
attribute [local go_sem] max2_int min2_int max_two min_two max_three min_three max_four min_four   -- for this text's walks alone
set_option linter.unusedVariables false
set_option linter.unusedSimpArgs false
attribute [local go_sem] eqGuard_slices eqlnil23 neqnil23 eqlnil58 neqnil58
def bellpullref01_In.f (a0:Int) (a1:Int) (a2:Int):Option (Bool):=if a0 ≥ a1 then (some (decide (a0 ≤ a2))) else (some false)
set_option maxHeartbeats 8000000 in
set_option maxRecDepth 100000 in
theorem bellpullref01_In.calls (a0:Int) (a1:Int) (a2:Int) (r:Bool) (w:World) (h:bellpullref01_In.f a0 a1 a2=some r) :
    Calls Try.prog 20 #[.int .i64 a0,.int .i64 a1,.int .i64 a2] w fun e w'=>e=.returned (.bool r)∧Drawn0 w w':=by
 have H:(if a0 ≥ a1 then (some (decide (a0 ≤ a2))) else (some false))=some r:=h;clear h
 by_cases c4:a0 ≥ a1
 ·
  rw [if_pos c4] at H;have c4b0:decide (a1 ≤ a0)=true:=decide_eq_true c4;clear c4;obtain rfl:=Option.some.inj H;go_enter Try.func20,Try.ntmps20;go_wp2;go_ret;exact ⟨by first|rfl|(simp;done)|(simp [*];done),by repeat (first|exact Drawn0.refl _|apply Drawn0.step)⟩
 ·
  rw [if_neg c4] at H;have c4b0:decide (a1 ≤ a0)=false:=decide_eq_false c4;clear c4;obtain rfl:=Option.some.inj H;go_enter Try.func20,Try.ntmps20;go_wp2;go_ret;exact ⟨by first|rfl|(simp;done)|(simp [*];done),by repeat (first|exact Drawn0.refl _|apply Drawn0.step)⟩
end Go.Proofs.Ytkonljiembcdlaa.PC
namespace Go.Proofs.Ytkonljiembcdlaa.PC
open Go.Proofs.MyWords Go.RowKit Go.Proofs.YtkonljiembcdlaaW.PrintWords Go.Proofs.YtkonljiembcdlaaW.PrintLast Go.Proofs.YtkonljiembcdlaaW.PrintMore
attribute [local go_sem] max2_int min2_int max_two min_two max_three min_three max_four min_four   -- for this text's walks alone
set_option linter.unusedVariables false
set_option linter.unusedSimpArgs false
attribute [local go_sem] eqGuard_slices eqlnil23 neqnil23 eqlnil58 neqnil58
def bellpullref05_Long.l0:Nat → List (S60) → Int → Option (Bool)
  | 0,_,_=>none
  | k + 1,x0,x3=>if x3 < (x0.length:Int) then (if 0 ≤ x3 then (if (((rd_T60 x0 x3).f1).length:Int) > 4 then (some true) else (bellpullref05_Long.l0 k x0 (wrap64 (x3 + 1)))) else (none)) else (some (decide ((x0.length:Int) > 8)))
def bellpullref05_Long.f (k:Nat) (l0:List (S60)):Option (Bool):=bellpullref05_Long.l0 k l0 0
theorem bellpullref05_Long.mono_l:∀ k,(∀ y0 y1,LeO (bellpullref05_Long.l0 k y0 y1) (bellpullref05_Long.l0 (k + 1) y0 y1))
  | 0=>fun _ _ r h=>by simp [bellpullref05_Long.l0] at h
  | k + 1=>by
    have ih0:=bellpullref05_Long.mono_l k
    · intro y0 y1
      unfold bellpullref05_Long.l0
      with_reducible repeat' first|exact ih0 _ _|exact LeO.refl _|exact LeO.none _|refine LeO.ite ?_ ?_|refine LeO.bind ?_ (fun _=>?_)
theorem bellpullref05_Long.mono:∀ a0 k,LeO (bellpullref05_Long.f k a0) (bellpullref05_Long.f (k + 1) a0):=by
  intro a0 k
  have ih0:=bellpullref05_Long.mono_l k
  unfold bellpullref05_Long.f
  with_reducible repeat' first|exact ih0 _ _|exact LeO.refl _|exact LeO.none _|refine LeO.ite ?_ ?_|refine LeO.bind ?_ (fun _=>?_)
set_option maxHeartbeats 8000000 in
set_option maxRecDepth 100000 in
theorem bellpullref05_Long.calls (k:Nat) (A0:Option Addr) (c0:Nat) (I:List (S60)) (r:Bool) (w:World) (a1:Kd.C k60 w A0 I.length I) (a2:I.length ≤ c0) (h:bellpullref05_Long.f k I=some r) :
    Calls Try.prog 48 #[.slice A0 I.length c0] w fun e w'=>e=.returned (.bool r)∧Drawn0 w w':=by
 have a3:=mk0 a1;have a8:=mk0 a2;clear a1 a2;have H:(bellpullref05_Long.l0 k I 0)=some r:=h;clear h;have H':=mk0 H;clear H;go_enter Try.func48,Try.ntmps48;go_wp2
 go_loopg [3] k (fun kq v3 w'=>∃ (B:Int),v3=.int .i64 B∧Aside0 (bellpullref05_Long.l0 kq I B=some r)∧Aside0 (kq ≤ k)∧Drawn0 w w')
 case atStart=>exact ⟨(0),(by first|rfl|(simp;done)|(simp [*];done)),H',⟨Nat.le_refl _⟩,by repeat (first|exact Drawn0.refl _|apply Drawn0.step)⟩
 case round =>
  clear H';obtain ⟨B,rfl,HA,a4,⟨m1,rfl⟩⟩:=hrel;cases gk with
  | zero=>exact absurd HA.1 (by simp [bellpullref05_Long.l0])
  | succ k1 =>
   have H:=HA.1;clear HA;simp only [bellpullref05_Long.l0] at H
   by_cases c2:B < (I.length:Int)
   ·
    rw [if_pos c2] at H;have c2b0:decide (B < (I.length:Int))=true:=decide_eq_true c2;clear c2
    by_cases c3:0 ≤ B
    ·
     rw [if_pos c3] at H;have c3b0:decide (0 ≤ B)=true:=decide_eq_true c3;clear c3
     by_cases c4:(((rd_T60 I B).f1).length:Int) > 4
     ·
      rw [if_pos c4] at H;have c4b0:decide (4 < (((rd_T60 I B).f1).length:Int))=true:=decide_eq_true c4;have c4b1:decide (4 < ((rd_T60 I B).f1).length)=true:=decide_eq_true (by omega);clear c4;obtain rfl:=Option.some.inj H;have J:0 ≤ (B:Int):=of_decide_eq_true (by first|(with_reducible assumption)|assumption);have L:B < (I.length:Int):=of_decide_eq_true (by first|(with_reducible assumption)|assumption);obtain ⟨a0,V,X,Y,Z,M,N,O,D,E,F,G⟩:=at_T60 a3.1 B J L;cases M;have Q:=mk0 E;have R:=mk0 D;clear E D;have T:=mk0 G;have U:=mk0 F;clear G F;replace J:=eq_true J;replace L:=eq_true L;go_wp2;go_ret;exact ⟨by first|rfl|(simp;done)|(simp [*];done),by repeat (first|exact Drawn0.refl _|apply Drawn0.step)⟩
     ·
      rw [if_neg c4] at H;have c4b0:decide (4 < (((rd_T60 I B).f1).length:Int))=false:=decide_eq_false c4;have c4b1:decide (4 < ((rd_T60 I B).f1).length)=false:=decide_eq_false (by omega);clear c4;have H':=mk0 H;clear H;have J:0 ≤ (B:Int):=of_decide_eq_true (by first|(with_reducible assumption)|assumption);have L:B < (I.length:Int):=of_decide_eq_true (by first|(with_reducible assumption)|assumption);obtain ⟨a0,V,X,Y,Z,M,N,O,D,E,F,G⟩:=at_T60 a3.1 B J L;cases M;have Q:=mk0 E;have R:=mk0 D;clear E D;have T:=mk0 G;have U:=mk0 F;clear G F;replace J:=eq_true J;replace L:=eq_true L;go_wp2;go_roundg k1
      case measure=>have:=a4.1;omega
      case rel=>exact ⟨(wrap64 (B + 1)),(by first|rfl|(simp;done)|(simp [*];done)),H',⟨by have:=a4.1;omega⟩,by repeat (first|exact Drawn0.refl _|apply Drawn0.step)⟩
    ·
     rw [if_neg c3] at H;exact absurd H (by simp)
   ·
    rw [if_neg c2] at H;have c2b0:decide (B < (I.length:Int))=false:=decide_eq_false c2;clear c2;obtain rfl:=Option.some.inj H;go_wp2;go_ret;exact ⟨by first|rfl|(simp;done)|(simp [*];done),by repeat (first|exact Drawn0.refl _|apply Drawn0.step)⟩
end Go.Proofs.Ytkonljiembcdlaa.PC
namespace Go.Proofs.Ytkonljiembcdlaa.PC
open Go.Proofs.MyWords Go.RowKit Go.Proofs.YtkonljiembcdlaaW.PrintWords Go.Proofs.YtkonljiembcdlaaW.PrintLast Go.Proofs.YtkonljiembcdlaaW.PrintMore
attribute [local go_sem] max2_int min2_int max_two min_two max_three min_three max_four min_four   -- for this text's walks alone
set_option linter.unusedVariables false
set_option linter.unusedSimpArgs false
attribute [local go_sem] eqGuard_slices eqlnil23 neqnil23 eqlnil58 neqnil58
def bellpullref05_wide.l0:Nat → List Int → Int → Int → Option (Bool)
  | 0,_,_,_=>none
  | k + 1,x0,x1,x5=>if x5 < (x0.length:Int) then (if 0 ≤ x5 then ((bellpullref01_In.f (rd x0 x5) 0 x1).bind fun t386=>(if t386=true then (bellpullref05_wide.l0 k x0 x1 (wrap64 (x5 + 1))) else (some true))) else (none)) else (some false)
def bellpullref05_wide.f (k:Nat) (l0:List Int) (a1:Int):Option (Bool):=bellpullref05_wide.l0 k l0 a1 0
theorem bellpullref05_wide.mono_l:∀ k,(∀ y0 y1 y2,LeO (bellpullref05_wide.l0 k y0 y1 y2) (bellpullref05_wide.l0 (k + 1) y0 y1 y2))
  | 0=>fun _ _ _ r h=>by simp [bellpullref05_wide.l0] at h
  | k + 1=>by
    have ih0:=bellpullref05_wide.mono_l k
    · intro y0 y1 y2
      unfold bellpullref05_wide.l0
      with_reducible repeat' first|exact ih0 _ _ _|exact LeO.refl _|exact LeO.none _|refine LeO.ite ?_ ?_|refine LeO.bind ?_ (fun _=>?_)
theorem bellpullref05_wide.mono:∀ a0 a1 k,LeO (bellpullref05_wide.f k a0 a1) (bellpullref05_wide.f (k + 1) a0 a1):=by
  intro a0 a1 k
  have ih0:=bellpullref05_wide.mono_l k
  unfold bellpullref05_wide.f
  with_reducible repeat' first|exact ih0 _ _ _|exact LeO.refl _|exact LeO.none _|refine LeO.ite ?_ ?_|refine LeO.bind ?_ (fun _=>?_)
set_option maxHeartbeats 8000000 in
set_option maxRecDepth 100000 in
theorem bellpullref05_wide.calls (k:Nat) (X:Option Addr) (Y:Nat) (D:List Int) (G:Int) (r:Bool) (w:World) (O:Kd.C (Kd.int .i64) w X D.length D) (Q:D.length ≤ Y) (h:bellpullref05_wide.f k D G=some r) :
    Calls Try.prog 85 #[.slice X D.length Y,.int .i64 G] w fun e w'=>e=.returned (.bool r)∧Drawn0 w w':=by
 have R:=mk0 O;have a2:=mk0 Q;clear O Q;have H:(bellpullref05_wide.l0 k D G 0)=some r:=h;clear h;have H':=mk0 H;clear H;go_enter Try.func85,Try.ntmps85;go_wp2
 go_loopg [5] k (fun kq v5 w'=>∃ (B:Int),v5=.int .i64 B∧Aside0 (bellpullref05_wide.l0 kq D G B=some r)∧Aside0 (kq ≤ k)∧Drawn0 w w')
 case atStart=>exact ⟨(0),(by first|rfl|(simp;done)|(simp [*];done)),H',⟨Nat.le_refl _⟩,by repeat (first|exact Drawn0.refl _|apply Drawn0.step)⟩
 case round =>
  clear H';try clear p2
  obtain ⟨B,rfl,HA,T,⟨m1,rfl⟩⟩:=hrel;cases gk with
  | zero=>exact absurd HA.1 (by simp [bellpullref05_wide.l0])
  | succ k1 =>
   have H:=HA.1;clear HA;simp only [bellpullref05_wide.l0] at H
   by_cases c3:B < (D.length:Int)
   ·
    rw [if_pos c3] at H;have c3b0:decide (B < (D.length:Int))=true:=decide_eq_true c3;clear c3
    by_cases c4:0 ≤ B
    ·
     rw [if_pos c4] at H;have c4b0:decide (0 ≤ B)=true:=decide_eq_true c4;clear c4;replace H:=Option.bind_eq_some_iff.mp H;obtain ⟨V,U,H⟩:=H;(try dsimp only at H);have Z:=mk0 U;clear U
     by_cases M:V=true
     ·
      subst M;have L:(bellpullref05_wide.l0 k1 D G (wrap64 (B + 1)))=some r:=by rw [if_pos rfl] at H;exact H
      clear H;have H:=L;clear L;have H':=mk0 H;clear H;have E:0 ≤ (B:Int):=of_decide_eq_true (by first|(with_reducible assumption)|assumption);have F:B < (D.length:Int):=of_decide_eq_true (by first|(with_reducible assumption)|assumption);obtain ⟨N,I,J⟩:=Kd.at_int R.1 B E F;cases I;replace E:=eq_true E;replace F:=eq_true F;go_wp2_with (first|((with_reducible refine gate_callee (f:=20) rfl ?_);refine goesL_ (some 17) rfl rfl Try.func20 (by kernel_rfl) rfl #[.int .i64 (rd D B),.int .i64 0,.int .i64 G] rfl (by (try simp only [m0_,m1_,m2_]);first|done|rfl|(simp only [l0_,l1_];rfl)) ?_;(with_reducible refine (bellpullref01_In.calls (rd D B) 0 G true _ Z.1).mono ?_);rintro e w' ⟨rfl,⟨nd,rfl⟩⟩;refine ⟨_,rfl,?_⟩));go_roundg k1
      case measure=>have:=T.1;omega
      case rel=>exact ⟨(wrap64 (B + 1)),(by first|rfl|(simp;done)|(simp [*];done)),H',⟨by have:=T.1;omega⟩,by repeat (first|exact Drawn0.refl _|apply Drawn0.step)⟩
     ·
      replace M:=Bool.eq_false_iff.mpr M;subst M;have L:(some true)=some r:=by rw [if_neg (show ¬ (false=true) by decide)] at H;exact H
      clear H;have H:=L;clear L;obtain rfl:=Option.some.inj H;have E:0 ≤ (B:Int):=of_decide_eq_true (by first|(with_reducible assumption)|assumption);have F:B < (D.length:Int):=of_decide_eq_true (by first|(with_reducible assumption)|assumption);obtain ⟨N,I,J⟩:=Kd.at_int R.1 B E F;cases I;replace E:=eq_true E;replace F:=eq_true F;go_wp2_with (first|((with_reducible refine gate_callee (f:=20) rfl ?_);refine goesL_ (some 17) rfl rfl Try.func20 (by kernel_rfl) rfl #[.int .i64 (rd D B),.int .i64 0,.int .i64 G] rfl (by (try simp only [m0_,m1_,m2_]);first|done|rfl|(simp only [l0_,l1_];rfl)) ?_;(with_reducible refine (bellpullref01_In.calls (rd D B) 0 G false _ Z.1).mono ?_);rintro e w' ⟨rfl,⟨nd,rfl⟩⟩;refine ⟨_,rfl,?_⟩));go_ret;exact ⟨by first|rfl|(simp;done)|(simp [*];done),by repeat (first|exact Drawn0.refl _|apply Drawn0.step)⟩
    ·
     rw [if_neg c4] at H;exact absurd H (by simp)
   ·
    rw [if_neg c3] at H;have c3b0:decide (B < (D.length:Int))=false:=decide_eq_false c3;clear c3;obtain rfl:=Option.some.inj H;go_wp2;go_ret;exact ⟨by first|rfl|(simp;done)|(simp [*];done),by repeat (first|exact Drawn0.refl _|apply Drawn0.step)⟩
end Go.Proofs.Ytkonljiembcdlaa.PC
namespace Go.Proofs.Ytkonljiembcdlaa.PC
open Go.Proofs.MyWords Go.RowKit Go.Proofs.YtkonljiembcdlaaW.PrintWords Go.Proofs.YtkonljiembcdlaaW.PrintLast Go.Proofs.YtkonljiembcdlaaW.PrintMore
attribute [local go_sem] max2_int min2_int max_two min_two max_three min_three max_four min_four   -- for this text's walks alone
set_option linter.unusedVariables false
set_option linter.unusedSimpArgs false
attribute [local go_sem] eqGuard_slices eqlnil23 neqnil23 eqlnil58 neqnil58
mutual
def bellpullref05_Wide.l0:Nat → List (S60) → Int → Option (Bool)
  | 0,_,_=>none
  | k + 1,x1,x5=>if x5 < (x1.length:Int) then (if 0 ≤ x5 then ((bellpullref05_vectors.f ((rd_T60 x1 x5).f0) ((rd_T60 x1 x5).f1)).bind fun t389=>(bellpullref05_Wide.l1 k x1 x5 t389 0)) else (none)) else (some false)
def bellpullref05_Wide.l1:Nat → List (S60) → Int → List (List Int) → Int → Option (Bool)
  | 0,_,_,_,_=>none
  | k + 1,x1,x5,x6,x7=>if x7 < (x6.length:Int) then (if 0 ≤ x7 then ((bellpullref05_wide.f k (rd_L1 x6 x7) 20).bind fun t393=>(if t393=true then (some true) else (bellpullref05_Wide.l1 k x1 x5 x6 (wrap64 (x7 + 1))))) else (none)) else (bellpullref05_Wide.l0 k x1 (wrap64 (x5 + 1)))
end
def bellpullref05_Wide.f (k:Nat) (a0:Int) (l1:List (S60)):Option (Bool):=(bellpullref01_In.f a0 1 3).bind fun t387=>(if t387=true then (bellpullref05_Wide.l0 k l1 0) else (some true))
theorem bellpullref05_Wide.mono_l:∀ k,(∀ y0 y1,LeO (bellpullref05_Wide.l0 k y0 y1) (bellpullref05_Wide.l0 (k + 1) y0 y1))∧(∀ y0 y1 y2 y3,LeO (bellpullref05_Wide.l1 k y0 y1 y2 y3) (bellpullref05_Wide.l1 (k + 1) y0 y1 y2 y3))
  | 0=>⟨fun _ _ r h=>by simp [bellpullref05_Wide.l0] at h,fun _ _ _ _ r h=>by simp [bellpullref05_Wide.l1] at h⟩
  | k + 1=>by
    obtain ⟨ih0,ih1⟩:=bellpullref05_Wide.mono_l k
    refine ⟨?_,?_⟩
    · intro y0 y1
      unfold bellpullref05_Wide.l0
      with_reducible repeat' first|exact ih0 _ _|exact ih1 _ _ _ _|exact bellpullref05_wide.mono _ _ _|exact LeO.refl _|exact LeO.none _|refine LeO.ite ?_ ?_|refine LeO.bind ?_ (fun _=>?_)
    · intro y0 y1 y2 y3
      unfold bellpullref05_Wide.l1
      with_reducible repeat' first|exact ih0 _ _|exact ih1 _ _ _ _|exact bellpullref05_wide.mono _ _ _|exact LeO.refl _|exact LeO.none _|refine LeO.ite ?_ ?_|refine LeO.bind ?_ (fun _=>?_)
theorem bellpullref05_Wide.mono:∀ a0 a1 k,LeO (bellpullref05_Wide.f k a0 a1) (bellpullref05_Wide.f (k + 1) a0 a1):=by
  intro a0 a1 k
  obtain ⟨ih0,ih1⟩:=bellpullref05_Wide.mono_l k
  unfold bellpullref05_Wide.f
  with_reducible repeat' first|exact ih0 _ _|exact ih1 _ _ _ _|exact bellpullref05_wide.mono _ _ _|exact LeO.refl _|exact LeO.none _|refine LeO.ite ?_ ?_|refine LeO.bind ?_ (fun _=>?_)
set_option maxHeartbeats 8000000 in
set_option maxRecDepth 100000 in
theorem bellpullref05_Wide.calls (k:Nat) (a0:Int) (A1:Option Addr) (c1:Nat) (U:List (S60)) (r:Bool) (w:World) (e5:Kd.C k60 w A1 U.length U) (e6:U.length ≤ c1) (h:bellpullref05_Wide.f k a0 U=some r) :
    Calls Try.prog 49 #[.int .i64 a0,.slice A1 U.length c1] w fun e w'=>e=.returned (.bool r)∧Below w.heap.size w w':=by
 have g3:=Try.underlying60;have g0:=mk0 e5;have h3:=mk0 e6;clear e5 e6;have G:=mk0 (Below.refl w.heap.size w);have H:((bellpullref01_In.f a0 1 3).bind fun b5=>(if b5=true then (bellpullref05_Wide.l0 k U 0) else (some true)))=some r:=h;clear h;replace H:=Option.bind_eq_some_iff.mp H;obtain ⟨b5,e7,H⟩:=H;(try dsimp only at H);have A3:=mk0 e7;clear e7
 by_cases c4:b5=true
 ·
  subst c4;have H1:(bellpullref05_Wide.l0 k U 0)=some r:=by rw [if_pos rfl] at H;exact H
  clear H;have H:=H1;clear H1;have H':=mk0 H;clear H;go_enter Try.func49,Try.ntmps49;go_wp2_with (first|((with_reducible refine gate_callee (f:=20) rfl ?_);refine goesL_ (some 9) rfl rfl Try.func20 (by kernel_rfl) rfl #[.int .i64 a0,.int .i64 1,.int .i64 3] rfl (by (try simp only [m0_,m1_,m2_]);first|done|rfl|(simp only [l0_,l1_];rfl)) ?_;(with_reducible refine (bellpullref01_In.calls a0 1 3 true _ A3.1).mono ?_);rintro e w' ⟨rfl,⟨nd,rfl⟩⟩;refine ⟨_,rfl,?_⟩))
  go_loopg [5] k (fun kq v5 w'=>∃ (D:Int),v5=.int .i64 D∧Aside0 (bellpullref05_Wide.l0 kq U D=some r)∧Aside0 (kq ≤ k)∧Aside0 (Below w.heap.size w w'))
  case atStart=>exact ⟨(0),(by first|rfl|(simp;done)|(simp [*];done)),H',⟨Nat.le_refl _⟩,⟨by repeat (first|(with_reducible first|exact G.1|apply below_alloc|apply pw_below_drewN|apply below_drew1)|exact G.1)⟩⟩
  case round =>
   clear H';try clear c1
   try clear c2
   try clear p2
   try clear c4
   obtain ⟨D,rfl,HA,b7,G⟩:=hrel;cases gk with
   | zero=>exact absurd HA.1 (by simp [bellpullref05_Wide.l0])
   | succ k1 =>
    have H:=HA.1;clear HA;simp only [bellpullref05_Wide.l0] at H
    by_cases c5:D < (U.length:Int)
    ·
     rw [if_pos c5] at H;have c5b0:decide (D < (U.length:Int))=true:=decide_eq_true c5;clear c5
     by_cases c6:0 ≤ D
     ·
      rw [if_pos c6] at H;have c6b0:decide (0 ≤ D)=true:=decide_eq_true c6;clear c6;replace H:=Option.bind_eq_some_iff.mp H;obtain ⟨F,e8,H⟩:=H;(try dsimp only at H);have A7:=mk0 e8;clear e8;have H':=mk0 H;clear H;have b2:0 ≤ (D:Int):=of_decide_eq_true (by first|(with_reducible assumption)|assumption);have b3:D < (U.length:Int):=of_decide_eq_true (by first|(with_reducible assumption)|assumption);obtain ⟨g2,d6,d7,d8,d9,f3,Y,Z,a8,a9,b0,b1⟩:=at_T60 g0.1 D b2 b3;cases f3;replace Y:=(G.1.cell (World.block_lt_of_cell? w _ Y)).trans Y;replace Z:=(G.1.cell (World.block_lt_of_cell? w _ Z)).trans Z;have c8:=mk0 a9;have d0:=mk0 a8;clear a9 a8;have d1:=mk0 b1;have d2:=mk0 b0;clear b1 b0;replace b2:=eq_true b2;replace b3:=eq_true b3;go_wp2_with (first|((with_reducible refine gate_callee (f:=75) rfl ?_);refine goesL_ (some 21) rfl rfl Try.func75 (by kernel_rfl) rfl #[.agg #[.slice d6 ((rd_T60 U D).f0).length d7,.slice d8 ((rd_T60 U D).f1).length d9]] rfl (by (try simp only [m0_,m1_,m2_]);first|done|rfl|(simp only [l0_,l1_];rfl)) ?_;(with_reducible refine (bellpullref05_vectors.calls (fun k_=>k_ < w.heap.size) _ _ ((rd_T60 U D).f0) (fun k_=>k_ < w.heap.size) _ _ ((rd_T60 U D).f1) F _ ?side1 ?side2 A7.1).mono ?_);(case side1=>exact Kd.V_mk d0.1 (Kd.F_below (Kd.C_F (Kd.heap_int .i64) c8.1) (by repeat (first|(with_reducible first|exact G.1|apply below_alloc|apply pw_below_drewN|apply below_drew1)|exact G.1))));(case side2=>exact Kd.V_mk d2.1 (Kd.F_below (Kd.C_F (Kd.heap_slice 3 (Kd.heap_int .i64)) d1.1) (by repeat (first|(with_reducible first|exact G.1|apply below_alloc|apply pw_below_drewN|apply below_drew1)|exact G.1))));rintro e w8 ⟨f4,rfl,e9,hb⟩;refine ⟨_,rfl,?_⟩;have e2:=mk0 (Kd.N_lower (Kd.N_mono (ok':=fun k_=>True) e9 (fun k_ hk_=>trivial)) (below_size (by repeat (first|(with_reducible first|exact G.1|apply below_alloc|apply pw_below_drewN|apply below_drew1)|exact G.1))));replace G:=mk0 (below_step (by repeat (first|(with_reducible first|exact G.1|apply below_alloc|apply pw_below_drewN|apply below_drew1)|exact G.1)) hb);(try clear hb);(try clear e9)))
      go_loopg [7] k1 (fun kq v7 w'=>∃ (B:Int),v7=.int .i64 B∧Aside0 (bellpullref05_Wide.l1 kq U D F B=some r)∧Aside0 (kq ≤ k1)∧Aside0 (Kd.N (Kd.slice 3 (Kd.int .i64)) 23 w' w.heap.size (fun _=>True) f4 F)∧Aside0 (Below w.heap.size w w'))
      case atStart=>exact ⟨(0),(by first|rfl|(simp;done)|(simp [*];done)),H',⟨Nat.le_refl _⟩,⟨by (with_reducible repeat (first|apply Kd.N_alloc|apply Kd.N_drewN|apply Kd.N_drew));exact e2.1⟩,⟨by repeat (first|(with_reducible first|exact G.1|apply below_alloc|apply pw_below_drewN|apply below_drew1)|exact G.1)⟩⟩
      case round =>
       clear H';try clear c1
       try clear c2
       try clear p2
       try clear c3
       try clear p3
       try clear q3
       try clear hx3
       try clear c4
       try clear c5
       try clear c5b0
       try clear c6
       try clear c6b0
       try clear c7
       try clear Y
       try clear Z
       try clear p2
       try clear b2
       try clear b3
       obtain ⟨B,rfl,HA,b8,L,G⟩:=hrel;cases gk with
       | zero=>exact absurd HA.1 (by simp [bellpullref05_Wide.l1])
       | succ k2 =>
        have H:=HA.1;clear HA;simp only [bellpullref05_Wide.l1] at H
        by_cases c9:B < (F.length:Int)
        ·
         rw [if_pos c9] at H;have c9b0:decide (B < (F.length:Int))=true:=decide_eq_true c9;clear c9
         by_cases c10:0 ≤ B
         ·
          rw [if_pos c10] at H;have c10b0:decide (0 ≤ B)=true:=decide_eq_true c10;clear c10;replace H:=Option.bind_eq_some_iff.mp H;obtain ⟨f5,e0,H⟩:=H;(try dsimp only at H);have f2:=mk0 e0;clear e0
          by_cases b9:f5=true
          ·
           subst b9;have H1:(some true)=some r:=by rw [if_pos rfl] at H;exact H
           clear H;have H:=H1;clear H1;obtain rfl:=Option.some.inj H;obtain ⟨g7,g8,f6⟩:=Kd.N_slice L.1;subst f6;have R:0 ≤ (B:Int):=of_decide_eq_true (by first|(with_reducible assumption)|assumption);have T:B < (F.length:Int):=of_decide_eq_true (by first|(with_reducible assumption)|assumption);obtain ⟨e3,a4,a5,b6,a1,M,O⟩:=at_L1 (Kd.N_reads' L.1).2.2 B R T;cases b6;obtain ⟨e4,a6,a7,X⟩:=Kd.N_get L.1 [] B R (by first|exact T|exact of_decide_eq_true (by first|(with_reducible assumption)|assumption)|(have e_:=(Kd.N_reads' L.1).1;omega));obtain ⟨d3,d4,rfl,I,J⟩:=Kd.FK_slice_open a7;have E:=X 0 _ rfl;rw [Nat.add_zero,show ((Kd.slice 3 (Kd.int .i64))).sz=1 from rfl,Nat.mul_one] at E;replace E:=Option.some.inj (E.symm.trans a1);injection E with hva_ hvn_ hvc_;rw [hva_] at J;rw [hvc_] at I;have d5:=mk0 (show Kd.V (Kd.int .i64) 3 _ w.heap.size _ _ (rd_L1 F B) from Kd.V_mk I J);clear hva_ hvn_ hvc_ J I;clear X a6;have Q:=mk0 O;have a2:=mk0 M;clear O M;replace R:=eq_true R;replace T:=eq_true T;go_wp2_with (first|((with_reducible refine gate_callee (f:=85) rfl ?_);refine goesL_ (some 32) rfl rfl Try.func85 (by kernel_rfl) rfl #[.slice a4 (rd_L1 F B).length a5,.int .i64 20] rfl (by (try simp only [m0_,m1_,m2_]);first|done|rfl|(simp only [l0_,l1_];rfl)) ?_;(with_reducible refine (bellpullref05_wide.calls k2 _ _ (rd_L1 F B) 20 true _ ?side1 ?side2 f2.1).mono ?_);(case side1=>repeat (first|exact (by repeat (first|(with_reducible exact Q.1)|(with_reducible refine Kd.C_alloc ?_ _)|(with_reducible refine Kd.C_drewN ?_ _)|(with_reducible refine Kd.C_drew ?_)|exact Q.1))|(with_reducible refine Kd.C_alloc ?_ _)|(with_reducible refine Kd.C_drewN ?_ _)|(with_reducible refine Kd.C_drew ?_)));(case side2=>exact a2.1);rintro e w' ⟨rfl,⟨nd,rfl⟩⟩;refine ⟨_,rfl,?_⟩));go_ret;exact ⟨by first|rfl|(simp [errW_none,errW_some] <;> rfl)|(simp [*,errW_none,errW_some] <;> rfl),by repeat (first|(with_reducible first|exact G.1|apply below_alloc|apply pw_below_drewN|apply below_drew1)|exact G.1)⟩
          ·
           replace b9:=Bool.eq_false_iff.mpr b9;subst b9;have H1:(bellpullref05_Wide.l1 k2 U D F (wrap64 (B + 1)))=some r:=by rw [if_neg (show ¬ (false=true) by decide)] at H;exact H
           clear H;have H:=H1;clear H1;have H':=mk0 H;clear H;obtain ⟨g9,h0,f7⟩:=Kd.N_slice L.1;subst f7;have R:0 ≤ (B:Int):=of_decide_eq_true (by first|(with_reducible assumption)|assumption);have T:B < (F.length:Int):=of_decide_eq_true (by first|(with_reducible assumption)|assumption);obtain ⟨e3,a4,a5,b6,a1,M,O⟩:=at_L1 (Kd.N_reads' L.1).2.2 B R T;cases b6;obtain ⟨e4,a6,a7,X⟩:=Kd.N_get L.1 [] B R (by first|exact T|exact of_decide_eq_true (by first|(with_reducible assumption)|assumption)|(have e_:=(Kd.N_reads' L.1).1;omega));obtain ⟨d3,d4,rfl,I,J⟩:=Kd.FK_slice_open a7;have E:=X 0 _ rfl;rw [Nat.add_zero,show ((Kd.slice 3 (Kd.int .i64))).sz=1 from rfl,Nat.mul_one] at E;replace E:=Option.some.inj (E.symm.trans a1);injection E with hva_ hvn_ hvc_;rw [hva_] at J;rw [hvc_] at I;have d5:=mk0 (show Kd.V (Kd.int .i64) 3 _ w.heap.size _ _ (rd_L1 F B) from Kd.V_mk I J);clear hva_ hvn_ hvc_ J I;clear X a6;have Q:=mk0 O;have a2:=mk0 M;clear O M;replace R:=eq_true R;replace T:=eq_true T;go_wp2_with (first|((with_reducible refine gate_callee (f:=85) rfl ?_);refine goesL_ (some 32) rfl rfl Try.func85 (by kernel_rfl) rfl #[.slice a4 (rd_L1 F B).length a5,.int .i64 20] rfl (by (try simp only [m0_,m1_,m2_]);first|done|rfl|(simp only [l0_,l1_];rfl)) ?_;(with_reducible refine (bellpullref05_wide.calls k2 _ _ (rd_L1 F B) 20 false _ ?side1 ?side2 f2.1).mono ?_);(case side1=>repeat (first|exact (by repeat (first|(with_reducible exact Q.1)|(with_reducible refine Kd.C_alloc ?_ _)|(with_reducible refine Kd.C_drewN ?_ _)|(with_reducible refine Kd.C_drew ?_)|exact Q.1))|(with_reducible refine Kd.C_alloc ?_ _)|(with_reducible refine Kd.C_drewN ?_ _)|(with_reducible refine Kd.C_drew ?_)));(case side2=>exact a2.1);rintro e w' ⟨rfl,⟨nd,rfl⟩⟩;refine ⟨_,rfl,?_⟩));go_roundg k2
           case measure=>have:=b7.1;have:=b8.1;omega
           case rel=>exact ⟨(wrap64 (B + 1)),(by first|rfl|(simp;done)|(simp [*];done)),H',⟨by have:=b7.1;have:=b8.1;omega⟩,⟨by (with_reducible repeat (first|apply Kd.N_alloc|apply Kd.N_drewN|apply Kd.N_drew));exact L.1⟩,⟨by repeat (first|(with_reducible first|exact G.1|apply below_alloc|apply pw_below_drewN|apply below_drew1)|exact G.1)⟩⟩
         ·
          rw [if_neg c10] at H;exact absurd H (by simp)
        ·
         rw [if_neg c9] at H;have c9b0:decide (B < (F.length:Int))=false:=decide_eq_false c9;clear c9;have H':=mk0 H;clear H;obtain ⟨h1,h2,f8⟩:=Kd.N_slice L.1;subst f8;go_wp2;go_roundg k2
         case measure=>have:=b7.1;have:=b8.1;omega
         case rel=>exact ⟨(wrap64 (D + 1)),(by first|rfl|(simp;done)|(simp [*];done)),H',⟨by have:=b7.1;have:=b8.1;omega⟩,⟨by repeat (first|(with_reducible first|exact G.1|apply below_alloc|apply pw_below_drewN|apply below_drew1)|exact G.1)⟩⟩
     ·
      rw [if_neg c6] at H;exact absurd H (by simp)
    ·
     rw [if_neg c5] at H;have c5b0:decide (D < (U.length:Int))=false:=decide_eq_false c5;clear c5;obtain rfl:=Option.some.inj H;go_wp2;go_ret;exact ⟨by first|rfl|(simp [errW_none,errW_some] <;> rfl)|(simp [*,errW_none,errW_some] <;> rfl),by repeat (first|(with_reducible first|exact G.1|apply below_alloc|apply pw_below_drewN|apply below_drew1)|exact G.1)⟩
 ·
  replace c4:=Bool.eq_false_iff.mpr c4;subst c4;have H1:(some true)=some r:=by rw [if_neg (show ¬ (false=true) by decide)] at H;exact H
  clear H;have H:=H1;clear H1;obtain rfl:=Option.some.inj H;go_enter Try.func49,Try.ntmps49;go_wp2_with (first|((with_reducible refine gate_callee (f:=20) rfl ?_);refine goesL_ (some 9) rfl rfl Try.func20 (by kernel_rfl) rfl #[.int .i64 a0,.int .i64 1,.int .i64 3] rfl (by (try simp only [m0_,m1_,m2_]);first|done|rfl|(simp only [l0_,l1_];rfl)) ?_;(with_reducible refine (bellpullref01_In.calls a0 1 3 false _ A3.1).mono ?_);rintro e w' ⟨rfl,⟨nd,rfl⟩⟩;refine ⟨_,rfl,?_⟩));go_ret;exact ⟨by first|rfl|(simp [errW_none,errW_some] <;> rfl)|(simp [*,errW_none,errW_some] <;> rfl),by repeat (first|(with_reducible first|exact G.1|apply below_alloc|apply pw_below_drewN|apply below_drew1)|exact G.1)⟩
end Go.Proofs.Ytkonljiembcdlaa.PC
namespace Go.Proofs.Ytkonljiembcdlaa.PC
open Go.Proofs.MyWords Go.RowKit Go.Proofs.YtkonljiembcdlaaW.PrintWords Go.Proofs.YtkonljiembcdlaaW.PrintLast Go.Proofs.YtkonljiembcdlaaW.PrintMore
attribute [local go_sem] max2_int min2_int max_two min_two max_three min_three max_four min_four   -- for this text's walks alone
set_option linter.unusedVariables false
set_option linter.unusedSimpArgs false
attribute [local go_sem] eqGuard_slices eqlnil23 neqnil23 eqlnil58 neqnil58
mutual
def bellpullref05_Odd.l0:Nat → Int → List (S60) → Int → Option (Bool)
  | 0,_,_,_=>none
  | k + 1,x0,x1,x5=>if x5 < (x1.length:Int) then (if 0 ≤ x5 then ((bellpullref05_vectors.f ((rd_T60 x1 x5).f0) ((rd_T60 x1 x5).f1)).bind fun t395=>(bellpullref05_Odd.l1 k x0 x1 x5 t395 0)) else (none)) else (some false)
def bellpullref05_Odd.l1:Nat → Int → List (S60) → Int → List (List Int) → Int → Option (Bool)
  | 0,_,_,_,_,_=>none
  | k + 1,x0,x1,x5,x6,x7=>if x7 < (x6.length:Int) then (if 0 ≤ x7 then (if ((rd_L1 x6 x7).length:Int)=x0 then (bellpullref05_Odd.l1 k x0 x1 x5 x6 (wrap64 (x7 + 1))) else (some true)) else (none)) else (bellpullref05_Odd.l0 k x0 x1 (wrap64 (x5 + 1)))
end
def bellpullref05_Odd.f (k:Nat) (a0:Int) (l1:List (S60)):Option (Bool):=bellpullref05_Odd.l0 k a0 l1 0
theorem bellpullref05_Odd.mono_l:∀ k,(∀ y0 y1 y2,LeO (bellpullref05_Odd.l0 k y0 y1 y2) (bellpullref05_Odd.l0 (k + 1) y0 y1 y2))∧(∀ y0 y1 y2 y3 y4,LeO (bellpullref05_Odd.l1 k y0 y1 y2 y3 y4) (bellpullref05_Odd.l1 (k + 1) y0 y1 y2 y3 y4))
  | 0=>⟨fun _ _ _ r h=>by simp [bellpullref05_Odd.l0] at h,fun _ _ _ _ _ r h=>by simp [bellpullref05_Odd.l1] at h⟩
  | k + 1=>by
    obtain ⟨ih0,ih1⟩:=bellpullref05_Odd.mono_l k
    refine ⟨?_,?_⟩
    · intro y0 y1 y2
      unfold bellpullref05_Odd.l0
      with_reducible repeat' first|exact ih0 _ _ _|exact ih1 _ _ _ _ _|exact LeO.refl _|exact LeO.none _|refine LeO.ite ?_ ?_|refine LeO.bind ?_ (fun _=>?_)
    · intro y0 y1 y2 y3 y4
      unfold bellpullref05_Odd.l1
      with_reducible repeat' first|exact ih0 _ _ _|exact ih1 _ _ _ _ _|exact LeO.refl _|exact LeO.none _|refine LeO.ite ?_ ?_|refine LeO.bind ?_ (fun _=>?_)
theorem bellpullref05_Odd.mono:∀ a0 a1 k,LeO (bellpullref05_Odd.f k a0 a1) (bellpullref05_Odd.f (k + 1) a0 a1):=by
  intro a0 a1 k
  obtain ⟨ih0,ih1⟩:=bellpullref05_Odd.mono_l k
  unfold bellpullref05_Odd.f
  with_reducible repeat' first|exact ih0 _ _ _|exact ih1 _ _ _ _ _|exact LeO.refl _|exact LeO.none _|refine LeO.ite ?_ ?_|refine LeO.bind ?_ (fun _=>?_)
set_option maxHeartbeats 8000000 in
set_option maxRecDepth 100000 in
theorem bellpullref05_Odd.calls (k:Nat) (a0:Int) (A1:Option Addr) (c1:Nat) (Y:List (S60)) (r:Bool) (w:World) (d9:Kd.C k60 w A1 Y.length Y) (e0:Y.length ≤ c1) (h:bellpullref05_Odd.f k a0 Y=some r) :
    Calls Try.prog 50 #[.int .i64 a0,.slice A1 Y.length c1] w fun e w'=>e=.returned (.bool r)∧Below w.heap.size w w':=by
 have f3:=Try.underlying60;have e9:=mk0 d9;have g3:=mk0 e0;clear d9 e0;have J:=mk0 (Below.refl w.heap.size w);have H:(bellpullref05_Odd.l0 k a0 Y 0)=some r:=h;clear h;have H':=mk0 H;clear H;go_enter Try.func50,Try.ntmps50;go_wp2
 go_loopg [5] k (fun kq v5 w'=>∃ (D:Int),v5=.int .i64 D∧Aside0 (bellpullref05_Odd.l0 kq a0 Y D=some r)∧Aside0 (kq ≤ k)∧Aside0 (Below w.heap.size w w'))
 case atStart=>exact ⟨(0),(by first|rfl|(simp;done)|(simp [*];done)),H',⟨Nat.le_refl _⟩,⟨by repeat (first|(with_reducible first|exact J.1|apply below_alloc|apply pw_below_drewN|apply below_drew1)|exact J.1)⟩⟩
 case round =>
  clear H';try clear c1
  try clear p2
  obtain ⟨D,rfl,HA,b1,J⟩:=hrel;cases gk with
  | zero=>exact absurd HA.1 (by simp [bellpullref05_Odd.l0])
  | succ k1 =>
   have H:=HA.1;clear HA;simp only [bellpullref05_Odd.l0] at H
   by_cases c3:D < (Y.length:Int)
   ·
    rw [if_pos c3] at H;have c3b0:decide (D < (Y.length:Int))=true:=decide_eq_true c3;clear c3
    by_cases c4:0 ≤ D
    ·
     rw [if_pos c4] at H;have c4b0:decide (0 ≤ D)=true:=decide_eq_true c4;clear c4;replace H:=Option.bind_eq_some_iff.mp H;obtain ⟨F,e1,H⟩:=H;(try dsimp only at H);have A5:=mk0 e1;clear e1;have H':=mk0 H;clear H;have a8:0 ≤ (D:Int):=of_decide_eq_true (by first|(with_reducible assumption)|assumption);have a9:D < (Y.length:Int):=of_decide_eq_true (by first|(with_reducible assumption)|assumption);obtain ⟨f2,c6,d0,d1,d2,e3,U,X,a4,a5,a6,a7⟩:=at_T60 e9.1 D a8 a9;cases e3;replace U:=(J.1.cell (World.block_lt_of_cell? w _ U)).trans U;replace X:=(J.1.cell (World.block_lt_of_cell? w _ X)).trans X;have b3:=mk0 a5;have b4:=mk0 a4;clear a5 a4;have b5:=mk0 a7;have b6:=mk0 a6;clear a7 a6;replace a8:=eq_true a8;replace a9:=eq_true a9;go_wp2_with (first|((with_reducible refine gate_callee (f:=75) rfl ?_);refine goesL_ (some 18) rfl rfl Try.func75 (by kernel_rfl) rfl #[.agg #[.slice c6 ((rd_T60 Y D).f0).length d0,.slice d1 ((rd_T60 Y D).f1).length d2]] rfl (by (try simp only [m0_,m1_,m2_]);first|done|rfl|(simp only [l0_,l1_];rfl)) ?_;(with_reducible refine (bellpullref05_vectors.calls (fun k_=>k_ < w.heap.size) _ _ ((rd_T60 Y D).f0) (fun k_=>k_ < w.heap.size) _ _ ((rd_T60 Y D).f1) F _ ?side1 ?side2 A5.1).mono ?_);(case side1=>exact Kd.V_mk b4.1 (Kd.F_below (Kd.C_F (Kd.heap_int .i64) b3.1) J.1));(case side2=>exact Kd.V_mk b6.1 (Kd.F_below (Kd.C_F (Kd.heap_slice 3 (Kd.heap_int .i64)) b5.1) J.1));rintro e w6 ⟨e4,rfl,e2,hb⟩;refine ⟨_,rfl,?_⟩;have d6:=mk0 (Kd.N_lower (Kd.N_mono (ok':=fun k_=>True) e2 (fun k_ hk_=>trivial)) (below_size J.1));replace J:=bst J hb;(try clear hb);(try clear e2)))
     go_loopg [7] k1 (fun kq v7 w'=>∃ (B:Int),v7=.int .i64 B∧Aside0 (bellpullref05_Odd.l1 kq a0 Y D F B=some r)∧Aside0 (kq ≤ k1)∧Aside0 (Kd.N (Kd.slice 3 (Kd.int .i64)) 23 w' w.heap.size (fun _=>True) e4 F)∧Aside0 (Below w.heap.size w w'))
     case atStart=>exact ⟨(0),(by first|rfl|(simp;done)|(simp [*];done)),H',⟨Nat.le_refl _⟩,⟨by (with_reducible repeat (first|apply Kd.N_alloc|apply Kd.N_drewN|apply Kd.N_drew));exact d6.1⟩,⟨by repeat (first|(with_reducible first|exact J.1|apply below_alloc|apply pw_below_drewN|apply below_drew1)|exact J.1)⟩⟩
     case round =>
      clear H';try clear c1
      try clear p2
      try clear c3
      try clear c3b0
      try clear p3
      try clear q3
      try clear hx3
      try clear c4
      try clear c4b0
      try clear c5
      try clear U
      try clear X
      try clear p2
      try clear a8
      try clear a9
      obtain ⟨B,rfl,HA,b2,L,J⟩:=hrel;cases gk with
      | zero=>exact absurd HA.1 (by simp [bellpullref05_Odd.l1])
      | succ k2 =>
       have H:=HA.1;clear HA;simp only [bellpullref05_Odd.l1] at H
       by_cases c7:B < (F.length:Int)
       ·
        rw [if_pos c7] at H;have c7b0:decide (B < (F.length:Int))=true:=decide_eq_true c7;clear c7
        by_cases c8:0 ≤ B
        ·
         rw [if_pos c8] at H;have c8b0:decide (0 ≤ B)=true:=decide_eq_true c8;clear c8
         by_cases c9:((rd_L1 F B).length:Int)=a0
         ·
          rw [if_pos c9] at H;have c9b0:(((rd_L1 F B).length:Int) == a0)=true:=beq_iff_eq.mpr c9;have c9b1:(((rd_L1 F B).length:Int) != a0)=false:=bne_eq_false_iff_eq.mpr c9;clear c9;have H':=mk0 H;clear H;obtain ⟨f7,f8,e5⟩:=Kd.N_slice L.1;subst e5;have Q:0 ≤ (B:Int):=of_decide_eq_true (by first|(with_reducible assumption)|assumption);have R:B < (F.length:Int):=of_decide_eq_true (by first|(with_reducible assumption)|assumption);obtain ⟨d7,d3,d4,b0,Z,M,O⟩:=at_L1 (Kd.N_reads' L.1).2.2 B Q R;cases b0;obtain ⟨d8,a1,a2,T⟩:=Kd.N_get L.1 [] B Q (by first|exact R|exact of_decide_eq_true (by first|(with_reducible assumption)|assumption)|(have e_:=(Kd.N_reads' L.1).1;omega));obtain ⟨b7,b8,rfl,G,I⟩:=Kd.FK_slice_open a2;have E:=T 0 _ rfl;rw [Nat.add_zero,show ((Kd.slice 3 (Kd.int .i64))).sz=1 from rfl,Nat.mul_one] at E;replace E:=Option.some.inj (E.symm.trans Z);injection E with hva_ hvn_ hvc_;rw [hva_] at I;rw [hvc_] at G;have b9:=mk0 (show Kd.V (Kd.int .i64) 3 _ w.heap.size _ _ (rd_L1 F B) from Kd.V_mk G I);clear hva_ hvn_ hvc_ I G;clear T a1;have c0:=mk0 O;have c2:=mk0 M;clear O M;replace Q:=eq_true Q;replace R:=eq_true R;go_wp2;go_roundg k2
          case measure=>have:=b1.1;have:=b2.1;omega
          case rel=>exact ⟨(wrap64 (B + 1)),(by first|rfl|(simp;done)|(simp [*];done)),H',⟨by have:=b1.1;have:=b2.1;omega⟩,⟨by (with_reducible repeat (first|apply Kd.N_alloc|apply Kd.N_drewN|apply Kd.N_drew));exact L.1⟩,⟨by repeat (first|(with_reducible first|exact J.1|apply below_alloc|apply pw_below_drewN|apply below_drew1)|exact J.1)⟩⟩
         ·
          rw [if_neg c9] at H;have c9b0:(((rd_L1 F B).length:Int) == a0)=false:=beq_eq_false_iff_ne.mpr c9;have c9b1:(((rd_L1 F B).length:Int) != a0)=true:=bne_iff_ne.mpr c9;obtain rfl:=Option.some.inj H;obtain ⟨f9,g0,e6⟩:=Kd.N_slice L.1;subst e6;have Q:0 ≤ (B:Int):=of_decide_eq_true (by first|(with_reducible assumption)|assumption);have R:B < (F.length:Int):=of_decide_eq_true (by first|(with_reducible assumption)|assumption);obtain ⟨d7,d3,d4,b0,Z,M,O⟩:=at_L1 (Kd.N_reads' L.1).2.2 B Q R;cases b0;obtain ⟨d8,a1,a2,T⟩:=Kd.N_get L.1 [] B Q (by first|exact R|exact of_decide_eq_true (by first|(with_reducible assumption)|assumption)|(have e_:=(Kd.N_reads' L.1).1;omega));obtain ⟨b7,b8,rfl,G,I⟩:=Kd.FK_slice_open a2;have E:=T 0 _ rfl;rw [Nat.add_zero,show ((Kd.slice 3 (Kd.int .i64))).sz=1 from rfl,Nat.mul_one] at E;replace E:=Option.some.inj (E.symm.trans Z);injection E with hva_ hvn_ hvc_;rw [hva_] at I;rw [hvc_] at G;have b9:=mk0 (show Kd.V (Kd.int .i64) 3 _ w.heap.size _ _ (rd_L1 F B) from Kd.V_mk G I);clear hva_ hvn_ hvc_ I G;clear T a1;have c0:=mk0 O;have c2:=mk0 M;clear O M;replace Q:=eq_true Q;replace R:=eq_true R;go_wp2;go_ret;exact ⟨by first|rfl|(simp [errW_none,errW_some] <;> rfl)|(simp [*,errW_none,errW_some] <;> rfl),by repeat (first|(with_reducible first|exact J.1|apply below_alloc|apply pw_below_drewN|apply below_drew1)|exact J.1)⟩
        ·
         rw [if_neg c8] at H;exact absurd H (by simp)
       ·
        rw [if_neg c7] at H;have c7b0:decide (B < (F.length:Int))=false:=decide_eq_false c7;clear c7;have H':=mk0 H;clear H;obtain ⟨g1,g2,e7⟩:=Kd.N_slice L.1;subst e7;go_wp2;go_roundg k2
        case measure=>have:=b1.1;have:=b2.1;omega
        case rel=>exact ⟨(wrap64 (D + 1)),(by first|rfl|(simp;done)|(simp [*];done)),H',⟨by have:=b1.1;have:=b2.1;omega⟩,⟨by repeat (first|(with_reducible first|exact J.1|apply below_alloc|apply pw_below_drewN|apply below_drew1)|exact J.1)⟩⟩
    ·
     rw [if_neg c4] at H;exact absurd H (by simp)
   ·
    rw [if_neg c3] at H;have c3b0:decide (D < (Y.length:Int))=false:=decide_eq_false c3;clear c3;obtain rfl:=Option.some.inj H;go_wp2;go_ret;exact ⟨by first|rfl|(simp [errW_none,errW_some] <;> rfl)|(simp [*,errW_none,errW_some] <;> rfl),by repeat (first|(with_reducible first|exact J.1|apply below_alloc|apply pw_below_drewN|apply below_drew1)|exact J.1)⟩
end Go.Proofs.Ytkonljiembcdlaa.PC
namespace Go.Proofs.Ytkonljiembcdlaa.PC
open Go.Proofs.MyWords Go.RowKit Go.Proofs.YtkonljiembcdlaaW.PrintWords Go.Proofs.YtkonljiembcdlaaW.PrintLast Go.Proofs.YtkonljiembcdlaaW.PrintMore
attribute [local go_sem] max2_int min2_int max_two min_two max_three min_three max_four min_four   -- for this text's walks alone
set_option linter.unusedVariables false
set_option linter.unusedSimpArgs false
attribute [local go_sem] eqGuard_slices eqlnil23 neqnil23 eqlnil58 neqnil58
mutual
def bellpullref05_Check.l0:Nat → Int → List (List (S60)) → Int → Option (Int)
  | 0,_,_,_=>none
  | k + 1,x0,x1,x5=>if x5 < (x1.length:Int) then (if 0 ≤ x5 then ((bellpullref05_Long.f k (rd_L4 x1 x5)).bind fun t400=>(if t400=true then (some 3) else (bellpullref05_Check.l0 k x0 x1 (wrap64 (x5 + 1))))) else (none)) else (bellpullref05_Check.l1 k x0 x1 0)
def bellpullref05_Check.l1:Nat → Int → List (List (S60)) → Int → Option (Int)
  | 0,_,_,_=>none
  | k + 1,x0,x1,x6=>if x6 < (x1.length:Int) then (if 0 ≤ x6 then ((bellpullref05_Wide.f k x0 (rd_L4 x1 x6)).bind fun t402=>(if t402=true then (some 1) else (bellpullref05_Check.l1 k x0 x1 (wrap64 (x6 + 1))))) else (none)) else ((bellpullref01_In.f x0 1 3).bind fun t403=>(if t403=true then (bellpullref05_Check.l2 k x0 x1 0) else (some 1)))
def bellpullref05_Check.l2:Nat → Int → List (List (S60)) → Int → Option (Int)
  | 0,_,_,_=>none
  | k + 1,x0,x1,x7=>if x7 < (x1.length:Int) then (if 0 ≤ x7 then ((bellpullref05_Odd.f k x0 (rd_L4 x1 x7)).bind fun t405=>(if t405=true then (some 2) else (bellpullref05_Check.l2 k x0 x1 (wrap64 (x7 + 1))))) else (none)) else (some 0)
end
def bellpullref05_Check.f (k:Nat) (a0:Int) (l1:List (List (S60))):Option (Int):=bellpullref05_Check.l0 k a0 l1 0
theorem bellpullref05_Check.mono_l:∀ k,(∀ B C D,LeO (bellpullref05_Check.l0 k B C D) (bellpullref05_Check.l0 (k + 1) B C D))∧(∀ B C D,LeO (bellpullref05_Check.l1 k B C D) (bellpullref05_Check.l1 (k + 1) B C D))∧(∀ B C D,LeO (bellpullref05_Check.l2 k B C D) (bellpullref05_Check.l2 (k + 1) B C D))
  | 0=>⟨fun _ _ _ r h=>by simp [bellpullref05_Check.l0] at h,fun _ _ _ r h=>by simp [bellpullref05_Check.l1] at h,fun _ _ _ r h=>by simp [bellpullref05_Check.l2] at h⟩
  | k + 1=>by
    obtain ⟨E,F,G⟩:=bellpullref05_Check.mono_l k
    refine ⟨?_,?_,?_⟩
    · intro B C D
      unfold bellpullref05_Check.l0
      with_reducible repeat' first|exact E _ _ _|exact F _ _ _|exact G _ _ _|exact bellpullref05_Long.mono _ _|exact bellpullref05_Odd.mono _ _ _|exact bellpullref05_Wide.mono _ _ _|exact LeO.refl _|exact LeO.none _|refine LeO.ite ?_ ?_|refine LeO.bind ?_ (fun _=>?_)
    · intro B C D
      unfold bellpullref05_Check.l1
      with_reducible repeat' first|exact E _ _ _|exact F _ _ _|exact G _ _ _|exact bellpullref05_Long.mono _ _|exact bellpullref05_Odd.mono _ _ _|exact bellpullref05_Wide.mono _ _ _|exact LeO.refl _|exact LeO.none _|refine LeO.ite ?_ ?_|refine LeO.bind ?_ (fun _=>?_)
    · intro B C D
      unfold bellpullref05_Check.l2
      with_reducible repeat' first|exact E _ _ _|exact F _ _ _|exact G _ _ _|exact bellpullref05_Long.mono _ _|exact bellpullref05_Odd.mono _ _ _|exact bellpullref05_Wide.mono _ _ _|exact LeO.refl _|exact LeO.none _|refine LeO.ite ?_ ?_|refine LeO.bind ?_ (fun _=>?_)
theorem bellpullref05_Check.mono:∀ a0 a1 k,LeO (bellpullref05_Check.f k a0 a1) (bellpullref05_Check.f (k + 1) a0 a1):=by
  intro a0 a1 k
  obtain ⟨ih0,ih1,ih2⟩:=bellpullref05_Check.mono_l k
  unfold bellpullref05_Check.f
  with_reducible repeat' first|exact ih0 _ _ _|exact ih1 _ _ _|exact ih2 _ _ _|exact bellpullref05_Long.mono _ _|exact bellpullref05_Odd.mono _ _ _|exact bellpullref05_Wide.mono _ _ _|exact LeO.refl _|exact LeO.none _|refine LeO.ite ?_ ?_|refine LeO.bind ?_ (fun _=>?_)
set_option maxHeartbeats 8000000 in
set_option maxRecDepth 100000 in
theorem bellpullref05_Check.calls (k:Nat) (N:Int) (A1:Option Addr) (c1:Nat) (G:List (List (S60))) (r:Int) (w:World) (d9:Kd.C (Kd.slice 60 k60) w A1 G.length G) (e0:G.length ≤ c1) (h:bellpullref05_Check.f k N G=some r) :
    Calls Try.prog 19 #[.int .i64 N,.slice A1 G.length c1] w fun e w'=>e=.returned (.int .i64 r)∧Below w.heap.size w w':=by
 have b6:=mk0 d9;have f6:=mk0 e0;clear d9 e0;have B:=mk0 (Below.refl w.heap.size w);have H:(bellpullref05_Check.l0 k N G 0)=some r:=h;clear h;have H':=mk0 H;clear H;go_enter Try.func19,Try.ntmps19;go_wp2
 go_loopg [5] k (fun kq v5 w'=>∃ (D:Int),v5=.int .i64 D∧Aside0 (bellpullref05_Check.l0 kq N G D=some r)∧Aside0 (kq ≤ k)∧Aside0 (Below w.heap.size w w'))
 case atStart=>exact ⟨(0),(by first|rfl|(simp;done)|(simp [*];done)),H',⟨Nat.le_refl _⟩,⟨by repeat (first|(with_reducible first|exact B.1|apply below_alloc|apply pw_below_drewN|apply below_drew1)|exact B.1)⟩⟩
 case round =>
  clear H';try clear c1
  try clear p2
  obtain ⟨D,rfl,HA,b7,B⟩:=hrel;cases gk with
  | zero=>exact absurd HA.1 (by simp [bellpullref05_Check.l0])
  | succ k1 =>
   have H:=HA.1;clear HA;simp only [bellpullref05_Check.l0] at H
   by_cases c3:D < (G.length:Int)
   ·
    rw [if_pos c3] at H;have c3b0:decide (D < (G.length:Int))=true:=decide_eq_true c3;clear c3
    by_cases c4:0 ≤ D
    ·
     rw [if_pos c4] at H;have c4b0:decide (0 ≤ D)=true:=decide_eq_true c4;clear c4;replace H:=Option.bind_eq_some_iff.mp H;obtain ⟨e6,e1,H⟩:=H;(try dsimp only at H);have A5:=mk0 e1;clear e1
     by_cases c6:e6=true
     ·
      subst c6;have M:(some 3)=some r:=by rw [if_pos rfl] at H;exact H
      clear H;have H:=M;clear M;obtain rfl:=Option.some.inj H;have X:0 ≤ (D:Int):=of_decide_eq_true (by first|(with_reducible assumption)|assumption);have Y:D < (G.length:Int):=of_decide_eq_true (by first|(with_reducible assumption)|assumption);obtain ⟨d6,b0,b1,c0,I,O,Q⟩:=at_L4 b6.1 D X Y;cases c0;replace I:=(B.1.cell (World.block_lt_of_cell? w _ I)).trans I;have a4:=mk0 Q;have a5:=mk0 O;clear Q O;replace X:=eq_true X;replace Y:=eq_true Y;go_wp2_with (first|((with_reducible refine gate_callee (f:=48) rfl ?_);refine goesL_ (some 18) rfl rfl Try.func48 (by kernel_rfl) rfl #[.slice b0 (rd_L4 G D).length b1] rfl (by (try simp only [m0_,m1_,m2_]);first|done|rfl|(simp only [l0_,l1_];rfl)) ?_;(with_reducible refine (bellpullref05_Long.calls k1 _ _ (rd_L4 G D) true _ ?side1 ?side2 A5.1).mono ?_);(case side1=>repeat (first|exact (Kd.C_below a4.1 B.1)|(with_reducible refine Kd.C_alloc ?_ _)|(with_reducible refine Kd.C_drewN ?_ _)|(with_reducible refine Kd.C_drew ?_)));(case side2=>exact a5.1);rintro e w' ⟨rfl,⟨nd,rfl⟩⟩;refine ⟨_,rfl,?_⟩));go_ret;exact ⟨by first|rfl|(simp [errW_none,errW_some] <;> rfl)|(simp [*,errW_none,errW_some] <;> rfl),by repeat (first|(with_reducible first|exact B.1|apply below_alloc|apply pw_below_drewN|apply below_drew1)|exact B.1)⟩
     ·
      replace c6:=Bool.eq_false_iff.mpr c6;subst c6;have M:(bellpullref05_Check.l0 k1 N G (wrap64 (D + 1)))=some r:=by rw [if_neg (show ¬ (false=true) by decide)] at H;exact H
      clear H;have H:=M;clear M;have H':=mk0 H;clear H;have X:0 ≤ (D:Int):=of_decide_eq_true (by first|(with_reducible assumption)|assumption);have Y:D < (G.length:Int):=of_decide_eq_true (by first|(with_reducible assumption)|assumption);obtain ⟨d6,b0,b1,c0,I,O,Q⟩:=at_L4 b6.1 D X Y;cases c0;replace I:=(B.1.cell (World.block_lt_of_cell? w _ I)).trans I;have a4:=mk0 Q;have a5:=mk0 O;clear Q O;replace X:=eq_true X;replace Y:=eq_true Y;go_wp2_with (first|((with_reducible refine gate_callee (f:=48) rfl ?_);refine goesL_ (some 18) rfl rfl Try.func48 (by kernel_rfl) rfl #[.slice b0 (rd_L4 G D).length b1] rfl (by (try simp only [m0_,m1_,m2_]);first|done|rfl|(simp only [l0_,l1_];rfl)) ?_;(with_reducible refine (bellpullref05_Long.calls k1 _ _ (rd_L4 G D) false _ ?side1 ?side2 A5.1).mono ?_);(case side1=>repeat (first|exact (Kd.C_below a4.1 B.1)|(with_reducible refine Kd.C_alloc ?_ _)|(with_reducible refine Kd.C_drewN ?_ _)|(with_reducible refine Kd.C_drew ?_)));(case side2=>exact a5.1);rintro e w' ⟨rfl,⟨nd,rfl⟩⟩;refine ⟨_,rfl,?_⟩));go_roundg k1
      case measure=>have:=b7.1;omega
      case rel=>exact ⟨(wrap64 (D + 1)),(by first|rfl|(simp;done)|(simp [*];done)),H',⟨by have:=b7.1;omega⟩,⟨by repeat (first|(with_reducible first|exact B.1|apply below_alloc|apply pw_below_drewN|apply below_drew1)|exact B.1)⟩⟩
    ·
     rw [if_neg c4] at H;exact absurd H (by simp)
   ·
    rw [if_neg c3] at H;have c3b0:decide (D < (G.length:Int))=false:=decide_eq_false c3;clear c3;have H':=mk0 H;clear H;go_wp2
    go_loopg [6] k1 (fun kq v6 w'=>∃ (E:Int),v6=.int .i64 E∧Aside0 (bellpullref05_Check.l1 kq N G E=some r)∧Aside0 (kq ≤ k1)∧Aside0 (Below w.heap.size w w'))
    case atStart=>exact ⟨(0),(by first|rfl|(simp;done)|(simp [*];done)),H',⟨Nat.le_refl _⟩,⟨by repeat (first|(with_reducible first|exact B.1|apply below_alloc|apply pw_below_drewN|apply below_drew1)|exact B.1)⟩⟩
    case round =>
     clear H';try clear c1
     try clear p2
     try clear c3
     try clear c3b0
     try clear p3
     try clear q3
     try clear hx3
     try clear c4
     try clear c4b0
     try clear c6
     try clear p6
     try clear I
     try clear p2
     try clear X
     try clear Y
     obtain ⟨E,rfl,HA,d0,B⟩:=hrel;cases gk with
     | zero=>exact absurd HA.1 (by simp [bellpullref05_Check.l1])
     | succ k2 =>
      have H:=HA.1;clear HA;simp only [bellpullref05_Check.l1] at H
      by_cases c7:E < (G.length:Int)
      ·
       rw [if_pos c7] at H;have c7b0:decide (E < (G.length:Int))=true:=decide_eq_true c7;clear c7
       by_cases c8:0 ≤ E
       ·
        rw [if_pos c8] at H;have c8b0:decide (0 ≤ E)=true:=decide_eq_true c8;clear c8;replace H:=Option.bind_eq_some_iff.mp H;obtain ⟨e7,e2,H⟩:=H;(try dsimp only at H);have A9:=mk0 e2;clear e2
        by_cases b8:e7=true
        ·
         subst b8;have M:(some 1)=some r:=by rw [if_pos rfl] at H;exact H
         clear H;have H:=M;clear M;obtain rfl:=Option.some.inj H;have Z:0 ≤ (E:Int):=of_decide_eq_true (by first|(with_reducible assumption)|assumption);have a1:E < (G.length:Int):=of_decide_eq_true (by first|(with_reducible assumption)|assumption);obtain ⟨d7,b2,b3,c5,J,R,T⟩:=at_L4 b6.1 E Z a1;cases c5;replace J:=(B.1.cell (World.block_lt_of_cell? w _ J)).trans J;have a6:=mk0 T;have a7:=mk0 R;clear T R;replace Z:=eq_true Z;replace a1:=eq_true a1;go_wp2_with (first|((with_reducible refine gate_callee (f:=49) rfl ?_);refine goesL_ (some 30) rfl rfl Try.func49 (by kernel_rfl) rfl #[.int .i64 N,.slice b2 (rd_L4 G E).length b3] rfl (by (try simp only [m0_,m1_,m2_]);first|done|rfl|(simp only [l0_,l1_];rfl)) ?_;(with_reducible refine (bellpullref05_Wide.calls k2 N _ _ (rd_L4 G E) true _ ?side1 ?side2 A9.1).mono ?_);(case side1=>repeat (first|exact (Kd.C_below a6.1 B.1)|(with_reducible refine Kd.C_alloc ?_ _)|(with_reducible refine Kd.C_drewN ?_ _)|(with_reducible refine Kd.C_drew ?_)));(case side2=>exact a7.1);rintro e f7 ⟨rfl,hb⟩;refine ⟨_,rfl,?_⟩;replace B:=mk0 (below_step (by repeat (first|(with_reducible first|exact B.1|apply below_alloc|apply pw_below_drewN|apply below_drew1)|exact B.1)) hb);(try clear hb)));go_ret;exact ⟨by first|rfl|(simp [errW_none,errW_some] <;> rfl)|(simp [*,errW_none,errW_some] <;> rfl),by repeat (first|(with_reducible first|exact B.1|apply below_alloc|apply pw_below_drewN|apply below_drew1)|exact B.1)⟩
        ·
         replace b8:=Bool.eq_false_iff.mpr b8;subst b8;have M:(bellpullref05_Check.l1 k2 N G (wrap64 (E + 1)))=some r:=by rw [if_neg (show ¬ (false=true) by decide)] at H;exact H
         clear H;have H:=M;clear M;have H':=mk0 H;clear H;have Z:0 ≤ (E:Int):=of_decide_eq_true (by first|(with_reducible assumption)|assumption);have a1:E < (G.length:Int):=of_decide_eq_true (by first|(with_reducible assumption)|assumption);obtain ⟨d7,b2,b3,c5,J,R,T⟩:=at_L4 b6.1 E Z a1;cases c5;replace J:=(B.1.cell (World.block_lt_of_cell? w _ J)).trans J;have a6:=mk0 T;have a7:=mk0 R;clear T R;replace Z:=eq_true Z;replace a1:=eq_true a1;go_wp2_with (first|((with_reducible refine gate_callee (f:=49) rfl ?_);refine goesL_ (some 30) rfl rfl Try.func49 (by kernel_rfl) rfl #[.int .i64 N,.slice b2 (rd_L4 G E).length b3] rfl (by (try simp only [m0_,m1_,m2_]);first|done|rfl|(simp only [l0_,l1_];rfl)) ?_;(with_reducible refine (bellpullref05_Wide.calls k2 N _ _ (rd_L4 G E) false _ ?side1 ?side2 A9.1).mono ?_);(case side1=>repeat (first|exact (Kd.C_below a6.1 B.1)|(with_reducible refine Kd.C_alloc ?_ _)|(with_reducible refine Kd.C_drewN ?_ _)|(with_reducible refine Kd.C_drew ?_)));(case side2=>exact a7.1);rintro e f8 ⟨rfl,hb⟩;refine ⟨_,rfl,?_⟩;replace B:=mk0 (below_step (by repeat (first|(with_reducible first|exact B.1|apply below_alloc|apply pw_below_drewN|apply below_drew1)|exact B.1)) hb);(try clear hb)));go_roundg k2
         case measure=>have:=b7.1;have:=d0.1;omega
         case rel=>exact ⟨(wrap64 (E + 1)),(by first|rfl|(simp;done)|(simp [*];done)),H',⟨by have:=b7.1;have:=d0.1;omega⟩,⟨by repeat (first|(with_reducible first|exact B.1|apply below_alloc|apply pw_below_drewN|apply below_drew1)|exact B.1)⟩⟩
       ·
        rw [if_neg c8] at H;exact absurd H (by simp)
      ·
       rw [if_neg c7] at H;have c7b0:decide (E < (G.length:Int))=false:=decide_eq_false c7;clear c7;replace H:=Option.bind_eq_some_iff.mp H;obtain ⟨e8,d4,H⟩:=H;(try dsimp only at H);have e3:=mk0 d4;clear d4
       by_cases b9:e8=true
       ·
        subst b9;have M:(bellpullref05_Check.l2 k2 N G 0)=some r:=by rw [if_pos rfl] at H;exact H
        clear H;have H:=M;clear M;have H':=mk0 H;clear H;go_wp2_with (first|((with_reducible refine gate_callee (f:=20) rfl ?_);refine goesL_ (some 32) rfl rfl Try.func20 (by kernel_rfl) rfl #[.int .i64 N,.int .i64 1,.int .i64 3] rfl (by (try simp only [m0_,m1_,m2_]);first|done|rfl|(simp only [l0_,l1_];rfl)) ?_;(with_reducible refine (bellpullref01_In.calls N 1 3 true _ e3.1).mono ?_);rintro e w' ⟨rfl,⟨nd,rfl⟩⟩;refine ⟨_,rfl,?_⟩))
        go_loopg [7] k2 (fun kq v7 w'=>∃ (F:Int),v7=.int .i64 F∧Aside0 (bellpullref05_Check.l2 kq N G F=some r)∧Aside0 (kq ≤ k2)∧Aside0 (Below w.heap.size w w'))
        case atStart=>exact ⟨(0),(by first|rfl|(simp;done)|(simp [*];done)),H',⟨Nat.le_refl _⟩,⟨by repeat (first|(with_reducible first|exact B.1|apply below_alloc|apply pw_below_drewN|apply below_drew1)|exact B.1)⟩⟩
        case round =>
         clear H';try clear c1
         try clear c2
         try clear p2
         try clear c3
         try clear c3b0
         try clear p3
         try clear q3
         try clear hx3
         try clear c4
         try clear c4b0
         try clear p4
         try clear q4
         try clear hx4
         try clear c6
         try clear p6
         try clear c7
         try clear c7b0
         try clear c8
         try clear c8b0
         try clear b8
         try clear b9
         try clear I
         try clear J
         try clear p2
         try clear p3
         try clear X
         try clear Z
         try clear p6
         try clear q3
         try clear Y
         try clear a1
         obtain ⟨F,rfl,HA,e4,B⟩:=hrel;cases gk with
         | zero=>exact absurd HA.1 (by simp [bellpullref05_Check.l2])
         | succ k3 =>
          have H:=HA.1;clear HA;simp only [bellpullref05_Check.l2] at H
          by_cases c15:F < (G.length:Int)
          ·
           rw [if_pos c15] at H;have c15b0:decide (F < (G.length:Int))=true:=decide_eq_true c15;clear c15
           by_cases c16:0 ≤ F
           ·
            rw [if_pos c16] at H;have c16b0:decide (0 ≤ F)=true:=decide_eq_true c16;clear c16;replace H:=Option.bind_eq_some_iff.mp H;obtain ⟨e9,d5,H⟩:=H;(try dsimp only at H);have e5:=mk0 d5;clear d5
            by_cases d1:e9=true
            ·
             subst d1;have M:(some 2)=some r:=by rw [if_pos rfl] at H;exact H
             clear H;have H:=M;clear M;obtain rfl:=Option.some.inj H;have a2:0 ≤ (F:Int):=of_decide_eq_true (by first|(with_reducible assumption)|assumption);have a3:F < (G.length:Int):=of_decide_eq_true (by first|(with_reducible assumption)|assumption);obtain ⟨d8,b4,b5,c9,L,U,V⟩:=at_L4 b6.1 F a2 a3;cases c9;replace L:=(B.1.cell (World.block_lt_of_cell? w _ L)).trans L;have a8:=mk0 V;have a9:=mk0 U;clear V U;replace a2:=eq_true a2;replace a3:=eq_true a3;go_wp2_with (first|((with_reducible refine gate_callee (f:=50) rfl ?_);refine goesL_ (some 45) rfl rfl Try.func50 (by kernel_rfl) rfl #[.int .i64 N,.slice b4 (rd_L4 G F).length b5] rfl (by (try simp only [m0_,m1_,m2_]);first|done|rfl|(simp only [l0_,l1_];rfl)) ?_;(with_reducible refine (bellpullref05_Odd.calls k3 N _ _ (rd_L4 G F) true _ ?side1 ?side2 e5.1).mono ?_);(case side1=>repeat (first|exact (Kd.C_below a8.1 B.1)|(with_reducible refine Kd.C_alloc ?_ _)|(with_reducible refine Kd.C_drewN ?_ _)|(with_reducible refine Kd.C_drew ?_)));(case side2=>exact a9.1);rintro e f9 ⟨rfl,hb⟩;refine ⟨_,rfl,?_⟩;replace B:=mk0 (below_step (by repeat (first|(with_reducible first|exact B.1|apply below_alloc|apply pw_below_drewN|apply below_drew1)|exact B.1)) hb);(try clear hb)));go_ret;exact ⟨by first|rfl|(simp [errW_none,errW_some] <;> rfl)|(simp [*,errW_none,errW_some] <;> rfl),by repeat (first|(with_reducible first|exact B.1|apply below_alloc|apply pw_below_drewN|apply below_drew1)|exact B.1)⟩
            ·
             replace d1:=Bool.eq_false_iff.mpr d1;subst d1;have M:(bellpullref05_Check.l2 k3 N G (wrap64 (F + 1)))=some r:=by rw [if_neg (show ¬ (false=true) by decide)] at H;exact H
             clear H;have H:=M;clear M;have H':=mk0 H;clear H;have a2:0 ≤ (F:Int):=of_decide_eq_true (by first|(with_reducible assumption)|assumption);have a3:F < (G.length:Int):=of_decide_eq_true (by first|(with_reducible assumption)|assumption);obtain ⟨d8,b4,b5,c9,L,U,V⟩:=at_L4 b6.1 F a2 a3;cases c9;replace L:=(B.1.cell (World.block_lt_of_cell? w _ L)).trans L;have a8:=mk0 V;have a9:=mk0 U;clear V U;replace a2:=eq_true a2;replace a3:=eq_true a3;go_wp2_with (first|((with_reducible refine gate_callee (f:=50) rfl ?_);refine goesL_ (some 45) rfl rfl Try.func50 (by kernel_rfl) rfl #[.int .i64 N,.slice b4 (rd_L4 G F).length b5] rfl (by (try simp only [m0_,m1_,m2_]);first|done|rfl|(simp only [l0_,l1_];rfl)) ?_;(with_reducible refine (bellpullref05_Odd.calls k3 N _ _ (rd_L4 G F) false _ ?side1 ?side2 e5.1).mono ?_);(case side1=>repeat (first|exact (Kd.C_below a8.1 B.1)|(with_reducible refine Kd.C_alloc ?_ _)|(with_reducible refine Kd.C_drewN ?_ _)|(with_reducible refine Kd.C_drew ?_)));(case side2=>exact a9.1);rintro e g0 ⟨rfl,hb⟩;refine ⟨_,rfl,?_⟩;replace B:=mk0 (below_step (by repeat (first|(with_reducible first|exact B.1|apply below_alloc|apply pw_below_drewN|apply below_drew1)|exact B.1)) hb);(try clear hb)));go_roundg k3
             case measure=>have:=b7.1;have:=d0.1;have:=e4.1;omega
             case rel=>exact ⟨(wrap64 (F + 1)),(by first|rfl|(simp;done)|(simp [*];done)),H',⟨by have:=b7.1;have:=d0.1;have:=e4.1;omega⟩,⟨by repeat (first|(with_reducible first|exact B.1|apply below_alloc|apply pw_below_drewN|apply below_drew1)|exact B.1)⟩⟩
           ·
            rw [if_neg c16] at H;exact absurd H (by simp)
          ·
           rw [if_neg c15] at H;have c15b0:decide (F < (G.length:Int))=false:=decide_eq_false c15;clear c15;obtain rfl:=Option.some.inj H;go_wp2;go_ret;exact ⟨by first|rfl|(simp [errW_none,errW_some] <;> rfl)|(simp [*,errW_none,errW_some] <;> rfl),by repeat (first|(with_reducible first|exact B.1|apply below_alloc|apply pw_below_drewN|apply below_drew1)|exact B.1)⟩
       ·
        replace b9:=Bool.eq_false_iff.mpr b9;subst b9;have M:(some 1)=some r:=by rw [if_neg (show ¬ (false=true) by decide)] at H;exact H
        clear H;have H:=M;clear M;obtain rfl:=Option.some.inj H;go_wp2_with (first|((with_reducible refine gate_callee (f:=20) rfl ?_);refine goesL_ (some 32) rfl rfl Try.func20 (by kernel_rfl) rfl #[.int .i64 N,.int .i64 1,.int .i64 3] rfl (by (try simp only [m0_,m1_,m2_]);first|done|rfl|(simp only [l0_,l1_];rfl)) ?_;(with_reducible refine (bellpullref01_In.calls N 1 3 false _ e3.1).mono ?_);rintro e w' ⟨rfl,⟨nd,rfl⟩⟩;refine ⟨_,rfl,?_⟩));go_ret;exact ⟨by first|rfl|(simp [errW_none,errW_some] <;> rfl)|(simp [*,errW_none,errW_some] <;> rfl),by repeat (first|(with_reducible first|exact B.1|apply below_alloc|apply pw_below_drewN|apply below_drew1)|exact B.1)⟩
end Go.Proofs.Ytkonljiembcdlaa.PC
namespace Go.Proofs.Ytkonljiembcdlaa.PC
open Go.Proofs.MyWords Go.RowKit Go.Proofs.YtkonljiembcdlaaW.PrintWords Go.Proofs.YtkonljiembcdlaaW.PrintLast Go.Proofs.YtkonljiembcdlaaW.PrintMore
attribute [local go_sem] max2_int min2_int max_two min_two max_three min_three max_four min_four   -- for this text's walks alone
set_option linter.unusedVariables false
set_option linter.unusedSimpArgs false
attribute [local go_sem] eqGuard_slices eqlnil23 neqnil23 eqlnil58 neqnil58
def bellpullref05_Total.l0:Nat → List Int → Int → Int → Option (Int)
  | 0,_,_,_=>none
  | k + 1,x0,x3,x4=>if x4 < (x0.length:Int) then (if 0 ≤ x4 then (bellpullref05_Total.l0 k x0 (wrap64 (x3 + (rd x0 x4))) (wrap64 (x4 + 1))) else (none)) else (some x3)
def bellpullref05_Total.f (k:Nat) (l0:List Int):Option (Int):=bellpullref05_Total.l0 k l0 0 0
theorem bellpullref05_Total.mono_l:∀ k,(∀ y0 y1 y2,LeO (bellpullref05_Total.l0 k y0 y1 y2) (bellpullref05_Total.l0 (k + 1) y0 y1 y2))
  | 0=>fun _ _ _ r h=>by simp [bellpullref05_Total.l0] at h
  | k + 1=>by
    have ih0:=bellpullref05_Total.mono_l k
    · intro y0 y1 y2
      unfold bellpullref05_Total.l0
      with_reducible repeat' first|exact ih0 _ _ _|exact LeO.refl _|exact LeO.none _|refine LeO.ite ?_ ?_|refine LeO.bind ?_ (fun _=>?_)
theorem bellpullref05_Total.mono:∀ a0 k,LeO (bellpullref05_Total.f k a0) (bellpullref05_Total.f (k + 1) a0):=by
  intro a0 k
  have ih0:=bellpullref05_Total.mono_l k
  unfold bellpullref05_Total.f
  with_reducible repeat' first|exact ih0 _ _ _|exact LeO.refl _|exact LeO.none _|refine LeO.ite ?_ ?_|refine LeO.bind ?_ (fun _=>?_)
set_option maxHeartbeats 8000000 in
set_option maxRecDepth 100000 in
theorem bellpullref05_Total.calls (k:Nat) (O:Option Addr) (Q:Nat) (D:List Int) (r:Int) (w:World) (I:Kd.C (Kd.int .i64) w O D.length D) (J:D.length ≤ Q) (h:bellpullref05_Total.f k D=some r) :
    Calls Try.prog 45 #[.slice O D.length Q] w fun e w'=>e=.returned (.int .i64 r)∧Drawn0 w w':=by
 have R:=mk0 I;have X:=mk0 J;clear I J;have H:(bellpullref05_Total.l0 k D 0 0)=some r:=h;clear h;have H':=mk0 H;clear H;go_enter Try.func45,Try.ntmps45;go_wp2
 go_loopg [3,4] k (fun kq U V w'=>∃ (E:Int) (B:Int),U=.int .i64 E∧V=.int .i64 B∧Aside0 (bellpullref05_Total.l0 kq D E B=some r)∧Aside0 (kq ≤ k)∧Drawn0 w w')
 case atStart=>exact ⟨(0),(0),(by first|rfl|(simp;done)|(simp [*];done)),(by first|rfl|(simp;done)|(simp [*];done)),H',⟨Nat.le_refl _⟩,by repeat (first|exact Drawn0.refl _|apply Drawn0.step)⟩
 case round =>
  clear H';obtain ⟨E,B,rfl,rfl,HA,L,⟨Y,rfl⟩⟩:=hrel;cases gk with
  | zero=>exact absurd HA.1 (by simp [bellpullref05_Total.l0])
  | succ k1 =>
   have H:=HA.1;clear HA;simp only [bellpullref05_Total.l0] at H
   by_cases c2:B < (D.length:Int)
   ·
    rw [if_pos c2] at H;have c2b0:decide (B < (D.length:Int))=true:=decide_eq_true c2;clear c2
    by_cases c3:0 ≤ B
    ·
     rw [if_pos c3] at H;have c3b0:decide (0 ≤ B)=true:=decide_eq_true c3;clear c3;have H':=mk0 H;clear H;have F:0 ≤ (B:Int):=of_decide_eq_true (by first|(with_reducible assumption)|assumption);have G:B < (D.length:Int):=of_decide_eq_true (by first|(with_reducible assumption)|assumption);obtain ⟨T,M,N⟩:=Kd.at_int R.1 B F G;cases M;replace F:=eq_true F;replace G:=eq_true G;go_wp2;go_roundg k1
     case measure=>have:=L.1;omega
     case rel=>exact ⟨(wrap64 (E + (rd D B))),(wrap64 (B + 1)),(by first|rfl|(simp;done)|(simp [*];done)),(by first|rfl|(simp;done)|(simp [*];done)),H',⟨by have:=L.1;omega⟩,by repeat (first|exact Drawn0.refl _|apply Drawn0.step)⟩
    ·
     rw [if_neg c3] at H;exact absurd H (by simp)
   ·
    rw [if_neg c2] at H;have c2b0:decide (B < (D.length:Int))=false:=decide_eq_false c2;clear c2;obtain rfl:=Option.some.inj H;go_wp2;go_ret;exact ⟨by first|rfl|(simp;done)|(simp [*];done),by repeat (first|exact Drawn0.refl _|apply Drawn0.step)⟩
end Go.Proofs.Ytkonljiembcdlaa.PC
namespace Go.Proofs.Ytkonljiembcdlaa.PC
open Go.Proofs.MyWords Go.RowKit Go.Proofs.YtkonljiembcdlaaW.PrintWords Go.Proofs.YtkonljiembcdlaaW.PrintLast Go.Proofs.YtkonljiembcdlaaW.PrintMore
attribute [local go_sem] max2_int min2_int max_two min_two max_three min_three max_four min_four   -- for this text's walks alone
set_option linter.unusedVariables false
set_option linter.unusedSimpArgs false
attribute [local go_sem] eqGuard_slices eqlnil23 neqnil23 eqlnil58 neqnil58
mutual
def bellpulllaw05_heavy.l0:Nat → List (S60) → Int → Option (Bool)
  | 0,_,_=>none
  | k + 1,x0,x3=>if x3 < (x0.length:Int) then (bellpulllaw05_heavy.l1 k x0 x3 0 0) else (some false)
def bellpulllaw05_heavy.l1:Nat → List (S60) → Int → Int → Int → Option (Bool)
  | 0,_,_,_,_=>none
  | k + 1,x0,x3,x4,x5=>if 0 ≤ x3 then (if x3 < (x0.length:Int) then (if x5 < (((rd_T60 x0 x3).f1).length:Int) then (if 0 ≤ x5 then ((bellpullref05_Total.f k (rd_L1 ((rd_T60 x0 x3).f1) x5)).bind fun t410=>(if t410 > 0 then (if t410 < 3 then (bellpulllaw05_heavy.l1 k x0 x3 (wrap64 (x4 + 1)) (wrap64 (x5 + 1))) else (bellpulllaw05_heavy.l1 k x0 x3 x4 (wrap64 (x5 + 1)))) else (bellpulllaw05_heavy.l1 k x0 x3 x4 (wrap64 (x5 + 1))))) else (none)) else (if x4 > 2 then (some true) else (bellpulllaw05_heavy.l0 k x0 (wrap64 (x3 + 1))))) else (none)) else (none)
end
def bellpulllaw05_heavy.f (k:Nat) (l0:List (S60)):Option (Bool):=bellpulllaw05_heavy.l0 k l0 0
theorem bellpulllaw05_heavy.mono_l:∀ k,(∀ y0 y1,LeO (bellpulllaw05_heavy.l0 k y0 y1) (bellpulllaw05_heavy.l0 (k + 1) y0 y1))∧(∀ y0 y1 y2 y3,LeO (bellpulllaw05_heavy.l1 k y0 y1 y2 y3) (bellpulllaw05_heavy.l1 (k + 1) y0 y1 y2 y3))
  | 0=>⟨fun _ _ r h=>by simp [bellpulllaw05_heavy.l0] at h,fun _ _ _ _ r h=>by simp [bellpulllaw05_heavy.l1] at h⟩
  | k + 1=>by
    obtain ⟨ih0,ih1⟩:=bellpulllaw05_heavy.mono_l k
    refine ⟨?_,?_⟩
    · intro y0 y1
      unfold bellpulllaw05_heavy.l0
      with_reducible repeat' first|exact ih0 _ _|exact ih1 _ _ _ _|exact bellpullref05_Total.mono _ _|exact LeO.refl _|exact LeO.none _|refine LeO.ite ?_ ?_|refine LeO.bind ?_ (fun _=>?_)
    · intro y0 y1 y2 y3
      unfold bellpulllaw05_heavy.l1
      with_reducible repeat' first|exact ih0 _ _|exact ih1 _ _ _ _|exact bellpullref05_Total.mono _ _|exact LeO.refl _|exact LeO.none _|refine LeO.ite ?_ ?_|refine LeO.bind ?_ (fun _=>?_)
theorem bellpulllaw05_heavy.mono:∀ a0 k,LeO (bellpulllaw05_heavy.f k a0) (bellpulllaw05_heavy.f (k + 1) a0):=by
  intro a0 k
  obtain ⟨ih0,ih1⟩:=bellpulllaw05_heavy.mono_l k
  unfold bellpulllaw05_heavy.f
  with_reducible repeat' first|exact ih0 _ _|exact ih1 _ _ _ _|exact bellpullref05_Total.mono _ _|exact LeO.refl _|exact LeO.none _|refine LeO.ite ?_ ?_|refine LeO.bind ?_ (fun _=>?_)
set_option maxHeartbeats 8000000 in
set_option maxRecDepth 100000 in
theorem bellpulllaw05_heavy.calls (k:Nat) (A0:Option Addr) (c0:Nat) (M:List (S60)) (r:Bool) (w:World) (e4:Kd.C k60 w A0 M.length M) (e5:M.length ≤ c0) (h:bellpulllaw05_heavy.f k M=some r) :
    Calls Try.prog 21 #[.slice A0 M.length c0] w fun e w'=>e=.returned (.bool r)∧Drawn0 w w':=by
 have d0:=mk0 e4;have f4:=mk0 e5;clear e4 e5;have H:(bellpulllaw05_heavy.l0 k M 0)=some r:=h;clear h;have H':=mk0 H;clear H;go_enter Try.func21,Try.ntmps21;go_wp2
 go_loopg [3] k (fun kq v3 w'=>∃ (B:Int),v3=.int .i64 B∧Aside0 (bellpulllaw05_heavy.l0 kq M B=some r)∧Aside0 (kq ≤ k)∧Drawn0 w w')
 case atStart=>exact ⟨(0),(by first|rfl|(simp;done)|(simp [*];done)),H',⟨Nat.le_refl _⟩,by repeat (first|exact Drawn0.refl _|apply Drawn0.step)⟩
 case round =>
  clear H';obtain ⟨B,rfl,HA,d1,⟨m1,rfl⟩⟩:=hrel;cases gk with
  | zero=>exact absurd HA.1 (by simp [bellpulllaw05_heavy.l0])
  | succ k1 =>
   have H:=HA.1;clear HA;simp only [bellpulllaw05_heavy.l0] at H
   by_cases c2:B < (M.length:Int)
   ·
    rw [if_pos c2] at H;have c2b0:decide (B < (M.length:Int))=true:=decide_eq_true c2;clear c2;have H':=mk0 H;clear H;go_wp2
    go_loopg [4,5] k1 (fun kq v4 v5 w'=>∃ (a7:Int) (D:Int),v4=.int .i64 a7∧v5=.int .i64 D∧Aside0 (bellpulllaw05_heavy.l1 kq M B a7 D=some r)∧Aside0 (kq ≤ k1)∧Drawn0 w w')
    case atStart=>exact ⟨(0),(0),(by first|rfl|(simp;done)|(simp [*];done)),(by first|rfl|(simp;done)|(simp [*];done)),H',⟨Nat.le_refl _⟩,by repeat (first|exact Drawn0.refl _|apply Drawn0.step)⟩
    case round =>
     clear H';try clear c2
     try clear c2b0
     try clear p2
     obtain ⟨a7,D,rfl,rfl,HA,d2,⟨m2,rfl⟩⟩:=hrel;cases gk with
     | zero=>exact absurd HA.1 (by simp [bellpulllaw05_heavy.l1])
     | succ k2 =>
      have H:=HA.1;clear HA;simp only [bellpulllaw05_heavy.l1] at H
      by_cases c3:0 ≤ B
      ·
       rw [if_pos c3] at H;have c3b0:decide (0 ≤ B)=true:=decide_eq_true c3;clear c3
       by_cases c4:B < (M.length:Int)
       ·
        rw [if_pos c4] at H;have c4b0:decide (B < (M.length:Int))=true:=decide_eq_true c4;clear c4
        by_cases c5:D < (((rd_T60 M B).f1).length:Int)
        ·
         rw [if_pos c5] at H;have c5b0:decide (D < (((rd_T60 M B).f1).length:Int))=true:=decide_eq_true c5;clear c5
         by_cases c6:0 ≤ D
         ·
          rw [if_pos c6] at H;have c6b0:decide (0 ≤ D)=true:=decide_eq_true c6;clear c6;replace H:=Option.bind_eq_some_iff.mp H;obtain ⟨a8,e6,H⟩:=H;(try dsimp only at H);have A7:=mk0 e6;clear e6
          by_cases c8:a8 > 0
          ·
           rw [if_pos c8] at H;have c8b0:decide (0 < a8)=true:=decide_eq_true c8;clear c8
           by_cases c9:a8 < 3
           ·
            rw [if_pos c9] at H;have c9b0:decide (a8 < 3)=true:=decide_eq_true c9;clear c9;have H':=mk0 H;clear H;have J:0 ≤ (B:Int):=of_decide_eq_true (by first|(with_reducible assumption)|assumption);have L:B < (M.length:Int):=of_decide_eq_true (by first|(with_reducible assumption)|assumption);obtain ⟨a9,b7,b8,b9,c1,b0,V,X,E,F,G,I⟩:=at_T60 d0.1 B J L;cases b0;have b3:=mk0 F;have b4:=mk0 E;clear F E;have b5:=mk0 I;have b6:=mk0 G;clear I G;replace J:=eq_true J;replace L:=eq_true L;have Y:0 ≤ (B:Int):=of_decide_eq_true (by first|(with_reducible assumption)|assumption);have Z:B < (M.length:Int):=of_decide_eq_true (by first|(with_reducible assumption)|assumption);obtain ⟨c7,d9,e0,e1,e2,d3,a2,a3,N,O,Q,R⟩:=at_T60 d0.1 B Y Z;obtain rfl:a9=c7:=(by injection d3)
            have d5:=mk0 O;have d6:=mk0 N;clear O N;have a4:=mk0 R;have d7:=mk0 Q;clear R Q;replace Y:=eq_true Y;replace Z:=eq_true Z;have ea_:=Option.some.inj (V.symm.trans a2);injection ea_ with ea_ en_ ec_;subst ea_;subst ec_;clear en_;have ea_:=Option.some.inj (X.symm.trans a3);injection ea_ with ea_ en_ ec_;subst ea_;subst ec_;clear en_;have a0:0 ≤ (D:Int):=of_decide_eq_true (by first|(with_reducible assumption)|assumption);have a1:D < (((rd_T60 M B).f1).length:Int):=of_decide_eq_true (by first|(with_reducible assumption)|assumption);obtain ⟨e3,b1,b2,d4,d8,T,U⟩:=at_L1 a4.1 D a0 a1;cases d4;have a5:=mk0 U;have a6:=mk0 T;clear U T;replace a0:=eq_true a0;replace a1:=eq_true a1;go_wp2_with (first|((with_reducible refine gate_callee (f:=45) rfl ?_);refine goesL_ (some 31) rfl rfl Try.func45 (by kernel_rfl) rfl #[.slice b1 (rd_L1 ((rd_T60 M B).f1) D).length b2] rfl (by (try simp only [m0_,m1_,m2_]);first|done|rfl|(simp only [l0_,l1_];rfl)) ?_;(with_reducible refine (bellpullref05_Total.calls k2 _ _ (rd_L1 ((rd_T60 M B).f1) D) a8 _ ?side1 ?side2 A7.1).mono ?_);(case side1=>repeat (first|exact a5.1|(with_reducible refine Kd.C_alloc ?_ _)|(with_reducible refine Kd.C_drewN ?_ _)|(with_reducible refine Kd.C_drew ?_)));(case side2=>exact a6.1);rintro e w' ⟨rfl,⟨nd,rfl⟩⟩;refine ⟨_,rfl,?_⟩));go_roundg k2
            case measure=>have:=d1.1;have:=d2.1;omega
            case rel=>exact ⟨(wrap64 (a7 + 1)),(wrap64 (D + 1)),(by first|rfl|(simp;done)|(simp [*];done)),(by first|rfl|(simp;done)|(simp [*];done)),H',⟨by have:=d1.1;have:=d2.1;omega⟩,by repeat (first|exact Drawn0.refl _|apply Drawn0.step)⟩
           ·
            rw [if_neg c9] at H;have c9b0:decide (a8 < 3)=false:=decide_eq_false c9;clear c9;have H':=mk0 H;clear H;have J:0 ≤ (B:Int):=of_decide_eq_true (by first|(with_reducible assumption)|assumption);have L:B < (M.length:Int):=of_decide_eq_true (by first|(with_reducible assumption)|assumption);obtain ⟨a9,b7,b8,b9,c1,b0,V,X,E,F,G,I⟩:=at_T60 d0.1 B J L;cases b0;have b3:=mk0 F;have b4:=mk0 E;clear F E;have b5:=mk0 I;have b6:=mk0 G;clear I G;replace J:=eq_true J;replace L:=eq_true L;have Y:0 ≤ (B:Int):=of_decide_eq_true (by first|(with_reducible assumption)|assumption);have Z:B < (M.length:Int):=of_decide_eq_true (by first|(with_reducible assumption)|assumption);obtain ⟨c7,d9,e0,e1,e2,d3,a2,a3,N,O,Q,R⟩:=at_T60 d0.1 B Y Z;obtain rfl:a9=c7:=(by injection d3)
            have d5:=mk0 O;have d6:=mk0 N;clear O N;have a4:=mk0 R;have d7:=mk0 Q;clear R Q;replace Y:=eq_true Y;replace Z:=eq_true Z;have ea_:=Option.some.inj (V.symm.trans a2);injection ea_ with ea_ en_ ec_;subst ea_;subst ec_;clear en_;have ea_:=Option.some.inj (X.symm.trans a3);injection ea_ with ea_ en_ ec_;subst ea_;subst ec_;clear en_;have a0:0 ≤ (D:Int):=of_decide_eq_true (by first|(with_reducible assumption)|assumption);have a1:D < (((rd_T60 M B).f1).length:Int):=of_decide_eq_true (by first|(with_reducible assumption)|assumption);obtain ⟨e3,b1,b2,d4,d8,T,U⟩:=at_L1 a4.1 D a0 a1;cases d4;have a5:=mk0 U;have a6:=mk0 T;clear U T;replace a0:=eq_true a0;replace a1:=eq_true a1;go_wp2_with (first|((with_reducible refine gate_callee (f:=45) rfl ?_);refine goesL_ (some 31) rfl rfl Try.func45 (by kernel_rfl) rfl #[.slice b1 (rd_L1 ((rd_T60 M B).f1) D).length b2] rfl (by (try simp only [m0_,m1_,m2_]);first|done|rfl|(simp only [l0_,l1_];rfl)) ?_;(with_reducible refine (bellpullref05_Total.calls k2 _ _ (rd_L1 ((rd_T60 M B).f1) D) a8 _ ?side1 ?side2 A7.1).mono ?_);(case side1=>repeat (first|exact a5.1|(with_reducible refine Kd.C_alloc ?_ _)|(with_reducible refine Kd.C_drewN ?_ _)|(with_reducible refine Kd.C_drew ?_)));(case side2=>exact a6.1);rintro e w' ⟨rfl,⟨nd,rfl⟩⟩;refine ⟨_,rfl,?_⟩));go_roundg k2
            case measure=>have:=d1.1;have:=d2.1;omega
            case rel=>exact ⟨(a7),(wrap64 (D + 1)),(by first|rfl|(simp;done)|(simp [*];done)),(by first|rfl|(simp;done)|(simp [*];done)),H',⟨by have:=d1.1;have:=d2.1;omega⟩,by repeat (first|exact Drawn0.refl _|apply Drawn0.step)⟩
          ·
           rw [if_neg c8] at H;have c8b0:decide (0 < a8)=false:=decide_eq_false c8;clear c8;have H':=mk0 H;clear H;have J:0 ≤ (B:Int):=of_decide_eq_true (by first|(with_reducible assumption)|assumption);have L:B < (M.length:Int):=of_decide_eq_true (by first|(with_reducible assumption)|assumption);obtain ⟨a9,b7,b8,b9,c1,b0,V,X,E,F,G,I⟩:=at_T60 d0.1 B J L;cases b0;have b3:=mk0 F;have b4:=mk0 E;clear F E;have b5:=mk0 I;have b6:=mk0 G;clear I G;replace J:=eq_true J;replace L:=eq_true L;have Y:0 ≤ (B:Int):=of_decide_eq_true (by first|(with_reducible assumption)|assumption);have Z:B < (M.length:Int):=of_decide_eq_true (by first|(with_reducible assumption)|assumption);obtain ⟨c7,d9,e0,e1,e2,d3,a2,a3,N,O,Q,R⟩:=at_T60 d0.1 B Y Z;obtain rfl:a9=c7:=(by injection d3)
           have d5:=mk0 O;have d6:=mk0 N;clear O N;have a4:=mk0 R;have d7:=mk0 Q;clear R Q;replace Y:=eq_true Y;replace Z:=eq_true Z;have ea_:=Option.some.inj (V.symm.trans a2);injection ea_ with ea_ en_ ec_;subst ea_;subst ec_;clear en_;have ea_:=Option.some.inj (X.symm.trans a3);injection ea_ with ea_ en_ ec_;subst ea_;subst ec_;clear en_;have a0:0 ≤ (D:Int):=of_decide_eq_true (by first|(with_reducible assumption)|assumption);have a1:D < (((rd_T60 M B).f1).length:Int):=of_decide_eq_true (by first|(with_reducible assumption)|assumption);obtain ⟨e3,b1,b2,d4,d8,T,U⟩:=at_L1 a4.1 D a0 a1;cases d4;have a5:=mk0 U;have a6:=mk0 T;clear U T;replace a0:=eq_true a0;replace a1:=eq_true a1;go_wp2_with (first|((with_reducible refine gate_callee (f:=45) rfl ?_);refine goesL_ (some 31) rfl rfl Try.func45 (by kernel_rfl) rfl #[.slice b1 (rd_L1 ((rd_T60 M B).f1) D).length b2] rfl (by (try simp only [m0_,m1_,m2_]);first|done|rfl|(simp only [l0_,l1_];rfl)) ?_;(with_reducible refine (bellpullref05_Total.calls k2 _ _ (rd_L1 ((rd_T60 M B).f1) D) a8 _ ?side1 ?side2 A7.1).mono ?_);(case side1=>repeat (first|exact a5.1|(with_reducible refine Kd.C_alloc ?_ _)|(with_reducible refine Kd.C_drewN ?_ _)|(with_reducible refine Kd.C_drew ?_)));(case side2=>exact a6.1);rintro e w' ⟨rfl,⟨nd,rfl⟩⟩;refine ⟨_,rfl,?_⟩));go_roundg k2
           case measure=>have:=d1.1;have:=d2.1;omega
           case rel=>exact ⟨(a7),(wrap64 (D + 1)),(by first|rfl|(simp;done)|(simp [*];done)),(by first|rfl|(simp;done)|(simp [*];done)),H',⟨by have:=d1.1;have:=d2.1;omega⟩,by repeat (first|exact Drawn0.refl _|apply Drawn0.step)⟩
         ·
          rw [if_neg c6] at H;exact absurd H (by simp)
        ·
         rw [if_neg c5] at H;have c5b0:decide (D < (((rd_T60 M B).f1).length:Int))=false:=decide_eq_false c5;clear c5
         by_cases c10:a7 > 2
         ·
          rw [if_pos c10] at H;have c10b0:decide (2 < a7)=true:=decide_eq_true c10;clear c10;obtain rfl:=Option.some.inj H;have J:0 ≤ (B:Int):=of_decide_eq_true (by first|(with_reducible assumption)|assumption);have L:B < (M.length:Int):=of_decide_eq_true (by first|(with_reducible assumption)|assumption);obtain ⟨a9,b7,b8,b9,c1,b0,V,X,E,F,G,I⟩:=at_T60 d0.1 B J L;cases b0;have b3:=mk0 F;have b4:=mk0 E;clear F E;have b5:=mk0 I;have b6:=mk0 G;clear I G;replace J:=eq_true J;replace L:=eq_true L;go_wp2;go_ret;exact ⟨by first|rfl|(simp;done)|(simp [*];done),by repeat (first|exact Drawn0.refl _|apply Drawn0.step)⟩
         ·
          rw [if_neg c10] at H;have c10b0:decide (2 < a7)=false:=decide_eq_false c10;clear c10;have H':=mk0 H;clear H;have J:0 ≤ (B:Int):=of_decide_eq_true (by first|(with_reducible assumption)|assumption);have L:B < (M.length:Int):=of_decide_eq_true (by first|(with_reducible assumption)|assumption);obtain ⟨a9,b7,b8,b9,c1,b0,V,X,E,F,G,I⟩:=at_T60 d0.1 B J L;cases b0;have b3:=mk0 F;have b4:=mk0 E;clear F E;have b5:=mk0 I;have b6:=mk0 G;clear I G;replace J:=eq_true J;replace L:=eq_true L;go_wp2;go_roundg k2
          case measure=>have:=d1.1;have:=d2.1;omega
          case rel=>exact ⟨(wrap64 (B + 1)),(by first|rfl|(simp;done)|(simp [*];done)),H',⟨by have:=d1.1;have:=d2.1;omega⟩,by repeat (first|exact Drawn0.refl _|apply Drawn0.step)⟩
       ·
        rw [if_neg c4] at H;exact absurd H (by simp)
      ·
       rw [if_neg c3] at H;exact absurd H (by simp)
   ·
    rw [if_neg c2] at H;have c2b0:decide (B < (M.length:Int))=false:=decide_eq_false c2;clear c2;obtain rfl:=Option.some.inj H;go_wp2;go_ret;exact ⟨by first|rfl|(simp;done)|(simp [*];done),by repeat (first|exact Drawn0.refl _|apply Drawn0.step)⟩
end Go.Proofs.Ytkonljiembcdlaa.PC
namespace Go.Proofs.Ytkonljiembcdlaa.PC
open Go.Proofs.MyWords Go.RowKit Go.Proofs.YtkonljiembcdlaaW.PrintWords Go.Proofs.YtkonljiembcdlaaW.PrintLast Go.Proofs.YtkonljiembcdlaaW.PrintMore
attribute [local go_sem] max2_int min2_int max_two min_two max_three min_three max_four min_four   -- for this text's walks alone
set_option linter.unusedVariables false
set_option linter.unusedSimpArgs false
attribute [local go_sem] eqGuard_slices eqlnil23 neqnil23 eqlnil58 neqnil58
def bellpullref05_Less.l0:Nat → List Int → List Int → List Int → Bool → Int → Option (List Int × Bool)
  | 0,_,_,_,_,_=>none
  | k + 1,x0,x1,x6,x7,x8=>if x8 < (x0.length:Int) then (if 0 ≤ x8 then (if x8 < (x1.length:Int) then (if x6.length < 17592186044416 then ((some (x6 ++ [wrap64 ((rd x0 x8) - (rd x1 x8))]:List Int)).bind fun y416=>(if x7=true then (bellpullref05_Less.l0 k x0 x1 y416 (decide ((rd x0 x8) ≥ (rd x1 x8))) (wrap64 (x8 + 1))) else (bellpullref05_Less.l0 k x0 x1 y416 false (wrap64 (x8 + 1))))) else (none)) else (none)) else (none)) else (some (x6,x7))
def bellpullref05_Less.f (k:Nat) (l0:List Int) (l1:List Int):Option (List Int × Bool):=bellpullref05_Less.l0 k l0 l1 (([]:List Int)) true 0
theorem bellpullref05_Less.mono_l:∀ k,(∀ y0 y1 y2 y3 y4,LeO (bellpullref05_Less.l0 k y0 y1 y2 y3 y4) (bellpullref05_Less.l0 (k + 1) y0 y1 y2 y3 y4))
  | 0=>fun _ _ _ _ _ r h=>by simp [bellpullref05_Less.l0] at h
  | k + 1=>by
    have ih0:=bellpullref05_Less.mono_l k
    · intro y0 y1 y2 y3 y4
      unfold bellpullref05_Less.l0
      with_reducible repeat' first|exact ih0 _ _ _ _ _|exact LeO.refl _|exact LeO.none _|refine LeO.ite ?_ ?_|refine LeO.bind ?_ (fun _=>?_)
theorem bellpullref05_Less.mono:∀ a0 a1 k,LeO (bellpullref05_Less.f k a0 a1) (bellpullref05_Less.f (k + 1) a0 a1):=by
  intro a0 a1 k
  have ih0:=bellpullref05_Less.mono_l k
  unfold bellpullref05_Less.f
  with_reducible repeat' first|exact ih0 _ _ _ _ _|exact LeO.refl _|exact LeO.none _|refine LeO.ite ?_ ?_|refine LeO.bind ?_ (fun _=>?_)
def bellpullref05_Less.T5:Bool × List (List Nat × List Nat):=(true,[([],[]),([],[]),([],[]),([1,2],[1,2]),([3],[3]),([],[]),([],[]),([5,6],[5,6]),([7],[7]),([4,8],[4,8]),([9],[9]),([0,10],[0,10]),([11,11,0,1,2,3,4,5,6,7,8,9,10,11],[0,11])])
def bellpullref05_Less.B5:List Nat:=[0,0,0,6,14,0,0,96,224,510,1022,2047,4095]
theorem bellpullref05_Less.tab5:rtab .any (opsOf Try.f38 5)=bellpullref05_Less.T5:=by kernel_rfl
theorem bellpullref05_Less.bits5:waitsOk bellpullref05_Less.T5.2 bellpullref05_Less.B5=true:=by kernel_rfl
def bellpullref05_Less.T6:Bool × List (List Nat × List Nat):=(true,[([],[]),([0],[0]),([1],[1]),([1],[1]),([2,3,1],[1,2,3]),([4,1],[1,4]),([1],[1]),([1],[1]),([6,7,1],[1,6,7]),([8,1],[1,8]),([5,9,1],[1,5,9]),([1,10],[1,10]),([11,1,0,1,2,3,4,5,6,7,8,9,10,11],[0,11])])
def bellpullref05_Less.B6:List Nat:=[0,1,3,3,15,31,3,3,195,451,1023,2047,4095]
theorem bellpullref05_Less.tab6:rtab .any (opsOf Try.f38 6)=bellpullref05_Less.T6:=by kernel_rfl
theorem bellpullref05_Less.bits6:waitsOk bellpullref05_Less.T6.2 bellpullref05_Less.B6=true:=by kernel_rfl
set_option maxHeartbeats 8000000 in
set_option maxRecDepth 100000 in
theorem bellpullref05_Less.calls (k:Nat) (A0:Option Addr) (c0:Nat) (M:List Int) (A1:Option Addr) (c1:Nat) (O:List Int) (r1:List Int) (r2:Bool) (w:World) (e5:Kd.C (Kd.int .i64) w A0 M.length M) (e6:M.length ≤ c0) (e7:Kd.C (Kd.int .i64) w A1 O.length O) (e8:O.length ≤ c1) (h:bellpullref05_Less.f k M O=some (r1,r2)) :
    Calls Try.prog 38 #[.slice A0 M.length c0,.slice A1 O.length c1] w fun e w'=>∃ e9:Value,e=.returned (.tuple #[e9,.bool r2])∧Kd.R (Kd.int .i64) 3 w' w.heap.size (fun _=>True) e9 r1∧Below w.heap.size w w':=by
 have d3:=mk0 e5;have g3:=mk0 e6;clear e5 e6;have d4:=mk0 e7;have g4:=mk0 e8;clear e7 e8;have G:=mk0 (Below.refl w.heap.size w);have H:(bellpullref05_Less.l0 k M O (([]:List Int)) true 0)=some (r1,r2):=h;clear h;obtain ⟨d5,a2⟩:∃ y_:List Int,y_=(([]:List Int)):=⟨_,rfl⟩
 replace H:(bellpullref05_Less.l0 k M O d5 true 0)=some (r1,r2):=by first|(rw [a2];with_reducible exact H)|(have a8:=(Option.bind_some _ _).symm.trans H;rw [a2];with_reducible exact a8)|(have a8:=(Option.bind_some _ _).symm.trans H;with_reducible exact a8)|with_reducible exact H|(rw [a2];exact H)|exact H
 have d0:=mk0 a2;clear a2;have H':=mk0 H;clear H;go_enter Try.func38,Try.ntmps38;go_wp2_with (first|((with_reducible refine gate_dst (N:=9) rfl ?_);refine Kd.R_lit (Kd.int .i64) _ 3 ?hg (N:=9) ?hd (xs:=([]:List Int)) (inner:=[]) (ok:=fun _=>True) (okp:=fun _=>True) ?hr ?hp (fun _ hk=>hk) trivial (Below.refl _ _) (Nat.le_refl _) (by simp) ?_;(case hd=>rfl);(case hg=>rfl);(case hr=>first|(go_simp;done)|(go_simp;rfl));(case hp=>exact (Reps.none _ _));intro f9 w3 b5 hb hg_ e0;clear hg_ e0;(first|rw [← d0.1] at b5|(simp only [Int.reduceToNat] at b5;rw [← d0.1] at b5));have e1:=mk0 (Kd.R_lower b5 (below_size G.1));replace G:=bst G hb;clear hb b5))
 go_loopg [6,7,8] k (fun kq v6 v7 v8 w'=>∃ (X:List Int) (a9:Bool) (B:Int),v7=.bool a9∧v8=.int .i64 B∧Aside0 (bellpullref05_Less.l0 kq M O X a9 B=some (r1,r2))∧Aside0 (kq ≤ k)∧Aside0 (Kd.R (Kd.int .i64) 3 w' w.heap.size (fun _=>True) v6 X)∧Aside0 (Below w.heap.size w w'))
 case atStart=>exact ⟨(d5),(true),(0),(by first|rfl|(simp;done)|(simp [*];done)),(by first|rfl|(simp;done)|(simp [*];done)),H',⟨Nat.le_refl _⟩,⟨by (with_reducible repeat (first|apply Kd.R_alloc|apply Kd.R_drewN|apply Kd.R_drew));exact e1.1⟩,⟨by repeat (first|(with_reducible first|exact G.1|apply below_alloc|apply pw_below_drewN|apply below_drew1)|exact G.1)⟩⟩
 case round =>
  clear H';try clear c1
  try clear p2
  try clear c3
  obtain ⟨X,a9,B,rfl,rfl,HA,d1,T,G⟩:=hrel;cases gk with
  | zero=>exact absurd HA.1 (by simp [bellpullref05_Less.l0])
  | succ k1 =>
   have H:=HA.1;clear HA;simp only [bellpullref05_Less.l0] at H
   by_cases c5:B < (M.length:Int)
   ·
    rw [if_pos c5] at H;have c5b0:decide (B < (M.length:Int))=true:=decide_eq_true c5;clear c5
    by_cases c6:0 ≤ B
    ·
     rw [if_pos c6] at H;have c6b0:decide (0 ≤ B)=true:=decide_eq_true c6;clear c6
     by_cases c7:B < (O.length:Int)
     ·
      rw [if_pos c7] at H;have c7b0:decide (B < (O.length:Int))=true:=decide_eq_true c7;clear c7
      by_cases c8:X.length < 17592186044416
      ·
       rw [if_pos c8] at H;have d6:=mk0 c8;clear c8;obtain ⟨a7,a3⟩:∃ y_:List Int,y_=(X ++ [wrap64 ((rd M B) - (rd O B))]):=⟨_,rfl⟩
       replace H:(if a9=true then (bellpullref05_Less.l0 k1 M O a7 (decide ((rd M B) ≥ (rd O B))) (wrap64 (B + 1))) else (bellpullref05_Less.l0 k1 M O a7 false (wrap64 (B + 1))))=some (r1,r2):=by first|(rw [a3];with_reducible exact H)|(have a8:=(Option.bind_some _ _).symm.trans H;rw [a3];with_reducible exact a8)|(have a8:=(Option.bind_some _ _).symm.trans H;with_reducible exact a8)|with_reducible exact H|(rw [a3];exact H)|exact H
       have d2:=mk0 a3;clear a3
       by_cases c9:a9=true
       ·
        subst c9;have H1:(bellpullref05_Less.l0 k1 M O a7 (decide ((rd M B) ≥ (rd O B))) (wrap64 (B + 1)))=some (r1,r2):=by rw [if_pos rfl] at H;exact H
        clear H;have H:=H1;clear H1;have H':=mk0 H;clear H;try go_wp2
        replace T:=rdr T;replace G:=hdr G;have Y:0 ≤ (B:Int):=of_decide_eq_true (by first|(with_reducible assumption)|assumption);have Z:B < (M.length:Int):=of_decide_eq_true (by first|(with_reducible assumption)|assumption);obtain ⟨a4,b6,J⟩:=Kd.at_int d3.1 B Y Z;have E:=J;cases b6;replace J:=(G.1.cell (World.block_lt_of_cell? w _ J)).trans J;replace Y:=eq_true Y;replace Z:=eq_true Z;have a0:0 ≤ (B:Int):=of_decide_eq_true (by first|(with_reducible assumption)|assumption);have a1:B < (O.length:Int):=of_decide_eq_true (by first|(with_reducible assumption)|assumption);obtain ⟨a5,b7,L⟩:=Kd.at_int d4.1 B a0 a1;have F:=L;cases b7;replace L:=(G.1.cell (World.block_lt_of_cell? w _ L)).trans L;replace a0:=eq_true a0;replace a1:=eq_true a1;refine start_ (n:=13) (S:=fun w'=>w'.cell? (a4.add (B).toNat)=some (.int .i64 (rd M B))∧w'.cell? (a5.add (B).toNat)=some (.int .i64 (rd O B))) (ds:=[]) #[n_,n_,n_,n_,n_,n_,n_,n_,n_,n_,n_,n_,n_] (by kernel_rfl) rfl rfl ⟨((G.1.cell (World.block_lt_of_cell? w _ E)).trans E),((G.1.cell (World.block_lt_of_cell? w _ F)).trans F)⟩ (fun I=>?_);refine with_tabW bellpullref05_Less.tab5 bellpullref05_Less.bits5 (fun D a6=>?_);generalize wr.drew=g5 at T G J L I ⊢;refine pure_ (i:=0) (N:=some 16) (v:=?_) (a':=?_) #[y_,n_,n_,n_,n_,n_,n_,n_,n_,n_,n_,n_,n_] rfl rfl (any_of D.1 (by kernel_rfl)) (fun _ _ _ h=>h) (Or.inl ⟨by rfl,?_⟩) ?_ ?_;rotate_left
        ·
         intro w';go_simp;with_reducible rfl
        rotate_left
        ·
         simp only [Act.put,s0_,s1_,s2_,i64_w,i32_w];rfl
        refine pure_ (i:=1) (N:=some 17) (v:=?_) (a':=?_) #[y_,y_,n_,n_,n_,n_,n_,n_,n_,n_,n_,n_,n_] rfl rfl (any_of D.1 (by kernel_rfl)) (fun _ _ _ h=>h) (Or.inl ⟨by rfl,?_⟩) ?_ ?_;rotate_left
        ·
         intro w';go_simp;with_reducible rfl
        rotate_left
        ·
         simp only [Act.put,s0_,s1_,s2_,i64_w,i32_w];rfl
        refine pure_ (i:=2) (N:=some 18) (v:=?_) (a':=?_) #[y_,y_,y_,n_,n_,n_,n_,n_,n_,n_,n_,n_,n_] rfl rfl (any_of D.1 (by kernel_rfl)) (fun _ _ _ h=>h) (Or.inl ⟨by rfl,?_⟩) ?_ ?_;rotate_left
        ·
         intro w';go_simp;with_reducible rfl
        rotate_left
        ·
         simp only [Act.put,s0_,s1_,s2_,i64_w,i32_w];rfl
        refine pure_ (i:=3) (N:=some 19) (v:=?_) (a':=?_) #[y_,y_,y_,y_,n_,n_,n_,n_,n_,n_,n_,n_,n_] rfl rfl (any_of D.1 (by kernel_rfl)) (fun _ _ _ h=>h) (Or.inl ⟨by rfl,?_⟩) ?_ ?_;rotate_left
        ·
         intro w';go_simp;with_reducible rfl
        rotate_left
        ·
         simp only [Act.put,s0_,s1_,s2_,i64_w,i32_w];rfl
        refine pure_ (i:=5) (N:=some 21) (v:=?_) (a':=?_) #[y_,y_,y_,y_,n_,y_,n_,n_,n_,n_,n_,n_,n_] rfl rfl (any_of D.1 (by kernel_rfl)) (fun _ _ _ h=>h) (Or.inl ⟨by rfl,?_⟩) ?_ ?_;rotate_left
        ·
         intro w';go_simp;with_reducible rfl
        rotate_left
        ·
         simp only [Act.put,s0_,s1_,s2_,i64_w,i32_w];rfl
        refine pure_ (i:=6) (N:=some 22) (v:=?_) (a':=?_) #[y_,y_,y_,y_,n_,y_,y_,n_,n_,n_,n_,n_,n_] rfl rfl (any_of D.1 (by kernel_rfl)) (fun _ _ _ h=>h) (Or.inl ⟨by rfl,?_⟩) ?_ ?_;rotate_left
        ·
         intro w';go_simp;with_reducible rfl
        rotate_left
        ·
         simp only [Act.put,s0_,s1_,s2_,i64_w,i32_w];rfl
        refine pure_ (i:=7) (N:=some 23) (v:=?_) (a':=?_) #[y_,y_,y_,y_,n_,y_,y_,y_,n_,n_,n_,n_,n_] rfl rfl (any_of D.1 (by kernel_rfl)) (fun _ _ _ h=>h) (Or.inl ⟨by rfl,?_⟩) ?_ ?_;rotate_left
        ·
         intro w';go_simp;with_reducible rfl
        rotate_left
        ·
         simp only [Act.put,s0_,s1_,s2_,i64_w,i32_w];rfl
        refine take_ (i:=4) (N:=some 20) (v:=?_) (a':=?_) #[y_,y_,y_,y_,y_,y_,y_,y_,n_,n_,n_,n_,n_] rfl rfl (take_ofW D.1 a6.1 (by kernel_rfl)) (fun _ _ _ h=>h) (Or.inl ⟨by rfl,?_⟩) I ?_ ?_;rotate_left
        ·
         rintro w' ⟨s0,s1⟩;go_simp;with_reducible rfl
        rotate_left
        ·
         simp only [Act.put,s0_,s1_,s2_,i64_w,i32_w];rfl
        refine take_ (i:=8) (N:=some 24) (v:=?_) (a':=?_) #[y_,y_,y_,y_,y_,y_,y_,y_,y_,n_,n_,n_,n_] rfl rfl (take_ofW D.1 a6.1 (by kernel_rfl)) (fun _ _ _ h=>h) (Or.inl ⟨by rfl,?_⟩) I ?_ ?_;rotate_left
        ·
         rintro w' ⟨s0,s1⟩;go_simp;with_reducible rfl
        rotate_left
        ·
         simp only [Act.put,s0_,s1_,s2_,i64_w,i32_w];rfl
        refine pure_ (i:=9) (N:=some 25) (v:=?_) (a':=?_) #[y_,y_,y_,y_,y_,y_,y_,y_,y_,y_,n_,n_,n_] rfl rfl (any_of D.1 (by kernel_rfl)) (fun _ _ _ h=>h) (Or.inl ⟨by rfl,?_⟩) ?_ ?_;rotate_left
        ·
         intro w';go_simp;with_reducible rfl
        rotate_left
        ·
         simp only [Act.put,s0_,s1_,s2_,i64_w,i32_w];rfl
        refine one_ (i:=10) (N:=some 26) #[y_,y_,y_,y_,y_,y_,y_,y_,y_,y_,y_,n_,n_] rfl rfl (one_of D.1 (by kernel_rfl)) (by decide) (fun K hK=>?_);refine value_ (w1:=?_) (v:=?_) (by rfl) rfl ?_ ?_;rotate_left 2
        ·
         go_simp;constructor
         ·
          rfl
         ·
          rfl
        refine hK.out _ _ ⟨(World.cell?_alloc_lt _ _ _ (World.block_lt_of_cell? _ _ (((G.1.cell (World.block_lt_of_cell? w _ E)).trans E)))).trans (((G.1.cell (World.block_lt_of_cell? w _ E)).trans E)),(World.cell?_alloc_lt _ _ _ (World.block_lt_of_cell? _ _ (((G.1.cell (World.block_lt_of_cell? w _ F)).trans F)))).trans (((G.1.cell (World.block_lt_of_cell? w _ F)).trans F))⟩ (fun I=>?_);clear hK K;refine norm_ (a':=?_) ?_ ?_;rotate_left
        ·
         show Act.put _ (some 26) _=_;simp only [Act.put,s0_,s1_,s2_,i64_w,i32_w];rfl
        refine one_ (i:=11) (N:=some 27) #[y_,y_,y_,y_,y_,y_,y_,y_,y_,y_,y_,y_,n_] rfl rfl (one_of D.1 (by kernel_rfl)) (by decide) (fun K hK=>?_);refine Kd.R_append_step (Kd.int .i64) (w0:=w) w.heap.size (by rfl) (.tmp 16) (.tmp 26) 23 3 (.int .i64 0) 8 rfl Try.underlying23 info3 rfl (by decide) (by omega) u6 X (wrap64 ((rd M B) - (rd O B))) [.int .i64 (wrap64 ((rd M B) - (rd O B)))] (fun _=>True) (fun _=>False) rfl rfl ?aP (fun _ hk=>hk.elim) ?aF ?aO ?aB ?aS ?aL ?_;(case aP=>exact rfl);(case aB=>exact G.1);(case aF=>exact (fun _ _=>trivial));(case aO=>exact T.1);(case aS=>exact (below_size G.1));(case aL=>have:=d6.1;omega);intro f1 f7 ho hb hg hat;rw [← d2.1] at ho;have Q:=mk0 (ho);replace G:=mk0 (hb);clear T;clear ho hb hg hat;refine hK.out _ _ ⟨((G.1.cell (World.block_lt_of_cell? w _ E)).trans E),((G.1.cell (World.block_lt_of_cell? w _ F)).trans F)⟩ (fun I=>?_);clear hK K;refine norm_ (a':=?_) ?_ ?_;rotate_left
        ·
         show Act.put _ (some 27) _=_;simp only [Act.put,s0_,s1_,s2_,i64_w,i32_w];rfl
        refine pure_ (i:=12) (N:=some 6) (v:=?_) (a':=?_) #[y_,y_,y_,y_,y_,y_,y_,y_,y_,y_,y_,y_,y_] rfl rfl (any_of D.1 (by kernel_rfl)) (fun _ _ _ h=>h) (Or.inl ⟨by rfl,?_⟩) ?_ ?_;rotate_left
        ·
         intro w';go_simp;with_reducible rfl
        rotate_left
        ·
         simp only [Act.put,s0_,s1_,s2_,i64_w,i32_w];rfl
        refine done_ (done_of D.1 (by kernel_rfl)) ?_;try go_wp2
        replace Q:=rdr Q;replace G:=hdr G;have b8:0 ≤ (B:Int):=of_decide_eq_true (by first|(with_reducible assumption)|assumption);have b9:B < (M.length:Int):=of_decide_eq_true (by first|(with_reducible assumption)|assumption);obtain ⟨e3,f2,U⟩:=Kd.at_int d3.1 B b8 b9;have b1:=U;obtain rfl:a4=e3:=(by injection f2)
        replace U:=(G.1.cell (World.block_lt_of_cell? w _ U)).trans U;replace b8:=eq_true b8;replace b9:=eq_true b9;have c2:0 ≤ (B:Int):=of_decide_eq_true (by first|(with_reducible assumption)|assumption);have c4:B < (O.length:Int):=of_decide_eq_true (by first|(with_reducible assumption)|assumption);obtain ⟨e4,f3,V⟩:=Kd.at_int d4.1 B c2 c4;have b2:=V;obtain rfl:a5=e4:=(by injection f3)
        replace V:=(G.1.cell (World.block_lt_of_cell? w _ V)).trans V;replace c2:=eq_true c2;replace c4:=eq_true c4;refine start_ (n:=13) (S:=fun w'=>w'.cell? (a4.add (B).toNat)=some (.int .i64 (rd M B))∧w'.cell? (a5.add (B).toNat)=some (.int .i64 (rd O B))) (ds:=[]) #[n_,n_,n_,n_,n_,n_,n_,n_,n_,n_,n_,n_,n_] (by kernel_rfl) rfl rfl ⟨((G.1.cell (World.block_lt_of_cell? w _ b1)).trans b1),((G.1.cell (World.block_lt_of_cell? w _ b2)).trans b2)⟩ (fun I=>?_);refine with_tabW bellpullref05_Less.tab6 bellpullref05_Less.bits6 (fun D a6=>?_);generalize f7.drew=g6 at Q G U V I ⊢;refine pure_ (i:=0) (N:=some 28) (v:=?_) (a':=?_) #[y_,n_,n_,n_,n_,n_,n_,n_,n_,n_,n_,n_,n_] rfl rfl (any_of D.1 (by kernel_rfl)) (fun _ _ _ h=>h) (Or.inl ⟨by rfl,?_⟩) ?_ ?_;rotate_left
        ·
         intro w';go_simp;with_reducible rfl
        rotate_left
        ·
         simp only [Act.put,s0_,s1_,s2_,i64_w,i32_w];rfl
        refine pure_ (i:=1) (N:=some 29) (v:=?_) (a':=?_) #[y_,y_,n_,n_,n_,n_,n_,n_,n_,n_,n_,n_,n_] rfl rfl (any_of D.1 (by kernel_rfl)) (fun _ _ _ h=>h) (Or.inl ⟨by rfl,?_⟩) ?_ ?_;rotate_left
        ·
         intro w';go_simp;with_reducible rfl
        rotate_left
        ·
         simp only [Act.put,s0_,s1_,s2_,i64_w,i32_w];rfl
        refine pure_ (i:=2) (N:=some 30) (v:=?_) (a':=?_) #[y_,y_,y_,n_,n_,n_,n_,n_,n_,n_,n_,n_,n_] rfl rfl (any_of D.1 (by kernel_rfl)) (fun _ _ _ h=>h) (Or.inl ⟨by rfl,?_⟩) ?_ ?_;rotate_left
        ·
         intro w';go_simp;with_reducible rfl
        rotate_left
        ·
         simp only [Act.put,s0_,s1_,s2_,i64_w,i32_w];rfl
        refine pure_ (i:=3) (N:=some 31) (v:=?_) (a':=?_) #[y_,y_,y_,y_,n_,n_,n_,n_,n_,n_,n_,n_,n_] rfl rfl (any_of D.1 (by kernel_rfl)) (fun _ _ _ h=>h) (Or.inl ⟨by rfl,?_⟩) ?_ ?_;rotate_left
        ·
         intro w';go_simp;with_reducible rfl
        rotate_left
        ·
         simp only [Act.put,s0_,s1_,s2_,i64_w,i32_w];rfl
        refine pure_ (i:=4) (N:=some 32) (v:=?_) (a':=?_) #[y_,y_,y_,y_,y_,n_,n_,n_,n_,n_,n_,n_,n_] rfl rfl (any_of D.1 (by kernel_rfl)) (fun _ _ _ h=>h) (Or.inl ⟨by rfl,?_⟩) ?_ ?_;rotate_left
        ·
         intro w';go_simp;with_reducible rfl
        rotate_left
        ·
         simp only [Act.put,s0_,s1_,s2_,i64_w,i32_w];rfl
        refine pure_ (i:=6) (N:=some 34) (v:=?_) (a':=?_) #[y_,y_,y_,y_,y_,n_,y_,n_,n_,n_,n_,n_,n_] rfl rfl (any_of D.1 (by kernel_rfl)) (fun _ _ _ h=>h) (Or.inl ⟨by rfl,?_⟩) ?_ ?_;rotate_left
        ·
         intro w';go_simp;with_reducible rfl
        rotate_left
        ·
         simp only [Act.put,s0_,s1_,s2_,i64_w,i32_w];rfl
        refine pure_ (i:=7) (N:=some 35) (v:=?_) (a':=?_) #[y_,y_,y_,y_,y_,n_,y_,y_,n_,n_,n_,n_,n_] rfl rfl (any_of D.1 (by kernel_rfl)) (fun _ _ _ h=>h) (Or.inl ⟨by rfl,?_⟩) ?_ ?_;rotate_left
        ·
         intro w';go_simp;with_reducible rfl
        rotate_left
        ·
         simp only [Act.put,s0_,s1_,s2_,i64_w,i32_w];rfl
        refine pure_ (i:=8) (N:=some 36) (v:=?_) (a':=?_) #[y_,y_,y_,y_,y_,n_,y_,y_,y_,n_,n_,n_,n_] rfl rfl (any_of D.1 (by kernel_rfl)) (fun _ _ _ h=>h) (Or.inl ⟨by rfl,?_⟩) ?_ ?_;rotate_left
        ·
         intro w';go_simp;with_reducible rfl
        rotate_left
        ·
         simp only [Act.put,s0_,s1_,s2_,i64_w,i32_w];rfl
        refine take_ (i:=5) (N:=some 33) (v:=?_) (a':=?_) #[y_,y_,y_,y_,y_,y_,y_,y_,y_,n_,n_,n_,n_] rfl rfl (take_ofW D.1 a6.1 (by kernel_rfl)) (fun _ _ _ h=>h) (Or.inl ⟨by rfl,?_⟩) I ?_ ?_;rotate_left
        ·
         rintro w' ⟨s0,s1⟩;go_simp;with_reducible rfl
        rotate_left
        ·
         simp only [Act.put,s0_,s1_,s2_,i64_w,i32_w];rfl
        refine take_ (i:=9) (N:=some 37) (v:=?_) (a':=?_) #[y_,y_,y_,y_,y_,y_,y_,y_,y_,y_,n_,n_,n_] rfl rfl (take_ofW D.1 a6.1 (by kernel_rfl)) (fun _ _ _ h=>h) (Or.inl ⟨by rfl,?_⟩) I ?_ ?_;rotate_left
        ·
         rintro w' ⟨s0,s1⟩;go_simp;with_reducible rfl
        rotate_left
        ·
         simp only [Act.put,s0_,s1_,s2_,i64_w,i32_w];rfl
        refine pure_ (i:=10) (N:=some 38) (v:=?_) (a':=?_) #[y_,y_,y_,y_,y_,y_,y_,y_,y_,y_,y_,n_,n_] rfl rfl (any_of D.1 (by kernel_rfl)) (fun _ _ _ h=>h) (Or.inl ⟨by rfl,?_⟩) ?_ ?_;rotate_left
        ·
         intro w';go_simp;with_reducible rfl
        rotate_left
        ·
         simp only [Act.put,s0_,s1_,s2_,i64_w,i32_w];rfl
        refine pure_ (i:=11) (N:=some 39) (v:=?_) (a':=?_) #[y_,y_,y_,y_,y_,y_,y_,y_,y_,y_,y_,y_,n_] rfl rfl (any_of D.1 (by kernel_rfl)) (fun _ _ _ h=>h) (Or.inl ⟨by rfl,?_⟩) ?_ ?_;rotate_left
        ·
         intro w';go_simp;with_reducible rfl
        rotate_left
        ·
         simp only [Act.put,s0_,s1_,s2_,i64_w,i32_w];rfl
        refine pure_ (i:=12) (N:=some 7) (v:=?_) (a':=?_) #[y_,y_,y_,y_,y_,y_,y_,y_,y_,y_,y_,y_,y_] rfl rfl (any_of D.1 (by kernel_rfl)) (fun _ _ _ h=>h) (Or.inl ⟨by rfl,?_⟩) ?_ ?_;rotate_left
        ·
         intro w';go_simp;with_reducible rfl
        rotate_left
        ·
         simp only [Act.put,s0_,s1_,s2_,i64_w,i32_w];rfl
        refine done_ (done_of D.1 (by kernel_rfl)) ?_;try go_wp2
        go_roundg k1
        case measure=>have:=d1.1;omega
        case rel=>exact ⟨(a7),(decide ((rd M B) ≥ (rd O B))),(wrap64 (B + 1)),(by first|rfl|(simp;done)|(simp [*];done)),(by first|rfl|(simp;done)|(simp [*];done)),H',⟨by have:=d1.1;omega⟩,⟨by (with_reducible repeat (first|apply Kd.R_alloc|apply Kd.R_drewN|apply Kd.R_drew));exact Q.1⟩,⟨by repeat (first|(with_reducible first|exact G.1|apply below_alloc|apply pw_below_drewN|apply below_drew1)|exact G.1)⟩⟩
       ·
        replace c9:=Bool.eq_false_iff.mpr c9;subst c9;have H1:(bellpullref05_Less.l0 k1 M O a7 false (wrap64 (B + 1)))=some (r1,r2):=by rw [if_neg (show ¬ (false=true) by decide)] at H;exact H
        clear H;have H:=H1;clear H1;have H':=mk0 H;clear H;try go_wp2
        replace T:=rdr T;replace G:=hdr G;have Y:0 ≤ (B:Int):=of_decide_eq_true (by first|(with_reducible assumption)|assumption);have Z:B < (M.length:Int):=of_decide_eq_true (by first|(with_reducible assumption)|assumption);obtain ⟨a4,b6,J⟩:=Kd.at_int d3.1 B Y Z;have E:=J;cases b6;replace J:=(G.1.cell (World.block_lt_of_cell? w _ J)).trans J;replace Y:=eq_true Y;replace Z:=eq_true Z;have a0:0 ≤ (B:Int):=of_decide_eq_true (by first|(with_reducible assumption)|assumption);have a1:B < (O.length:Int):=of_decide_eq_true (by first|(with_reducible assumption)|assumption);obtain ⟨a5,b7,L⟩:=Kd.at_int d4.1 B a0 a1;have F:=L;cases b7;replace L:=(G.1.cell (World.block_lt_of_cell? w _ L)).trans L;replace a0:=eq_true a0;replace a1:=eq_true a1;refine start_ (n:=13) (S:=fun w'=>w'.cell? (a4.add (B).toNat)=some (.int .i64 (rd M B))∧w'.cell? (a5.add (B).toNat)=some (.int .i64 (rd O B))) (ds:=[]) #[n_,n_,n_,n_,n_,n_,n_,n_,n_,n_,n_,n_,n_] (by kernel_rfl) rfl rfl ⟨((G.1.cell (World.block_lt_of_cell? w _ E)).trans E),((G.1.cell (World.block_lt_of_cell? w _ F)).trans F)⟩ (fun I=>?_);refine with_tabW bellpullref05_Less.tab5 bellpullref05_Less.bits5 (fun D a6=>?_);generalize wr.drew=g7 at T G J L I ⊢;refine pure_ (i:=0) (N:=some 16) (v:=?_) (a':=?_) #[y_,n_,n_,n_,n_,n_,n_,n_,n_,n_,n_,n_,n_] rfl rfl (any_of D.1 (by kernel_rfl)) (fun _ _ _ h=>h) (Or.inl ⟨by rfl,?_⟩) ?_ ?_;rotate_left
        ·
         intro w';go_simp;with_reducible rfl
        rotate_left
        ·
         simp only [Act.put,s0_,s1_,s2_,i64_w,i32_w];rfl
        refine pure_ (i:=1) (N:=some 17) (v:=?_) (a':=?_) #[y_,y_,n_,n_,n_,n_,n_,n_,n_,n_,n_,n_,n_] rfl rfl (any_of D.1 (by kernel_rfl)) (fun _ _ _ h=>h) (Or.inl ⟨by rfl,?_⟩) ?_ ?_;rotate_left
        ·
         intro w';go_simp;with_reducible rfl
        rotate_left
        ·
         simp only [Act.put,s0_,s1_,s2_,i64_w,i32_w];rfl
        refine pure_ (i:=2) (N:=some 18) (v:=?_) (a':=?_) #[y_,y_,y_,n_,n_,n_,n_,n_,n_,n_,n_,n_,n_] rfl rfl (any_of D.1 (by kernel_rfl)) (fun _ _ _ h=>h) (Or.inl ⟨by rfl,?_⟩) ?_ ?_;rotate_left
        ·
         intro w';go_simp;with_reducible rfl
        rotate_left
        ·
         simp only [Act.put,s0_,s1_,s2_,i64_w,i32_w];rfl
        refine pure_ (i:=3) (N:=some 19) (v:=?_) (a':=?_) #[y_,y_,y_,y_,n_,n_,n_,n_,n_,n_,n_,n_,n_] rfl rfl (any_of D.1 (by kernel_rfl)) (fun _ _ _ h=>h) (Or.inl ⟨by rfl,?_⟩) ?_ ?_;rotate_left
        ·
         intro w';go_simp;with_reducible rfl
        rotate_left
        ·
         simp only [Act.put,s0_,s1_,s2_,i64_w,i32_w];rfl
        refine pure_ (i:=5) (N:=some 21) (v:=?_) (a':=?_) #[y_,y_,y_,y_,n_,y_,n_,n_,n_,n_,n_,n_,n_] rfl rfl (any_of D.1 (by kernel_rfl)) (fun _ _ _ h=>h) (Or.inl ⟨by rfl,?_⟩) ?_ ?_;rotate_left
        ·
         intro w';go_simp;with_reducible rfl
        rotate_left
        ·
         simp only [Act.put,s0_,s1_,s2_,i64_w,i32_w];rfl
        refine pure_ (i:=6) (N:=some 22) (v:=?_) (a':=?_) #[y_,y_,y_,y_,n_,y_,y_,n_,n_,n_,n_,n_,n_] rfl rfl (any_of D.1 (by kernel_rfl)) (fun _ _ _ h=>h) (Or.inl ⟨by rfl,?_⟩) ?_ ?_;rotate_left
        ·
         intro w';go_simp;with_reducible rfl
        rotate_left
        ·
         simp only [Act.put,s0_,s1_,s2_,i64_w,i32_w];rfl
        refine pure_ (i:=7) (N:=some 23) (v:=?_) (a':=?_) #[y_,y_,y_,y_,n_,y_,y_,y_,n_,n_,n_,n_,n_] rfl rfl (any_of D.1 (by kernel_rfl)) (fun _ _ _ h=>h) (Or.inl ⟨by rfl,?_⟩) ?_ ?_;rotate_left
        ·
         intro w';go_simp;with_reducible rfl
        rotate_left
        ·
         simp only [Act.put,s0_,s1_,s2_,i64_w,i32_w];rfl
        refine take_ (i:=4) (N:=some 20) (v:=?_) (a':=?_) #[y_,y_,y_,y_,y_,y_,y_,y_,n_,n_,n_,n_,n_] rfl rfl (take_ofW D.1 a6.1 (by kernel_rfl)) (fun _ _ _ h=>h) (Or.inl ⟨by rfl,?_⟩) I ?_ ?_;rotate_left
        ·
         rintro w' ⟨s0,s1⟩;go_simp;with_reducible rfl
        rotate_left
        ·
         simp only [Act.put,s0_,s1_,s2_,i64_w,i32_w];rfl
        refine take_ (i:=8) (N:=some 24) (v:=?_) (a':=?_) #[y_,y_,y_,y_,y_,y_,y_,y_,y_,n_,n_,n_,n_] rfl rfl (take_ofW D.1 a6.1 (by kernel_rfl)) (fun _ _ _ h=>h) (Or.inl ⟨by rfl,?_⟩) I ?_ ?_;rotate_left
        ·
         rintro w' ⟨s0,s1⟩;go_simp;with_reducible rfl
        rotate_left
        ·
         simp only [Act.put,s0_,s1_,s2_,i64_w,i32_w];rfl
        refine pure_ (i:=9) (N:=some 25) (v:=?_) (a':=?_) #[y_,y_,y_,y_,y_,y_,y_,y_,y_,y_,n_,n_,n_] rfl rfl (any_of D.1 (by kernel_rfl)) (fun _ _ _ h=>h) (Or.inl ⟨by rfl,?_⟩) ?_ ?_;rotate_left
        ·
         intro w';go_simp;with_reducible rfl
        rotate_left
        ·
         simp only [Act.put,s0_,s1_,s2_,i64_w,i32_w];rfl
        refine one_ (i:=10) (N:=some 26) #[y_,y_,y_,y_,y_,y_,y_,y_,y_,y_,y_,n_,n_] rfl rfl (one_of D.1 (by kernel_rfl)) (by decide) (fun K hK=>?_);refine value_ (w1:=?_) (v:=?_) (by rfl) rfl ?_ ?_;rotate_left 2
        ·
         go_simp;constructor
         ·
          rfl
         ·
          rfl
        refine hK.out _ _ ⟨(World.cell?_alloc_lt _ _ _ (World.block_lt_of_cell? _ _ (((G.1.cell (World.block_lt_of_cell? w _ E)).trans E)))).trans (((G.1.cell (World.block_lt_of_cell? w _ E)).trans E)),(World.cell?_alloc_lt _ _ _ (World.block_lt_of_cell? _ _ (((G.1.cell (World.block_lt_of_cell? w _ F)).trans F)))).trans (((G.1.cell (World.block_lt_of_cell? w _ F)).trans F))⟩ (fun I=>?_);clear hK K;refine norm_ (a':=?_) ?_ ?_;rotate_left
        ·
         show Act.put _ (some 26) _=_;simp only [Act.put,s0_,s1_,s2_,i64_w,i32_w];rfl
        refine one_ (i:=11) (N:=some 27) #[y_,y_,y_,y_,y_,y_,y_,y_,y_,y_,y_,y_,n_] rfl rfl (one_of D.1 (by kernel_rfl)) (by decide) (fun K hK=>?_);refine Kd.R_append_step (Kd.int .i64) (w0:=w) w.heap.size (by rfl) (.tmp 16) (.tmp 26) 23 3 (.int .i64 0) 8 rfl Try.underlying23 info3 rfl (by decide) (by omega) u6 X (wrap64 ((rd M B) - (rd O B))) [.int .i64 (wrap64 ((rd M B) - (rd O B)))] (fun _=>True) (fun _=>False) rfl rfl ?aP (fun _ hk=>hk.elim) ?aF ?aO ?aB ?aS ?aL ?_;(case aP=>exact rfl);(case aB=>exact G.1);(case aF=>exact (fun _ _=>trivial));(case aO=>exact T.1);(case aS=>exact (below_size G.1));(case aL=>have:=d6.1;omega);intro f1 f8 ho hb hg hat;rw [← d2.1] at ho;have Q:=mk0 (ho);replace G:=mk0 (hb);clear T;clear ho hb hg hat;refine hK.out _ _ ⟨((G.1.cell (World.block_lt_of_cell? w _ E)).trans E),((G.1.cell (World.block_lt_of_cell? w _ F)).trans F)⟩ (fun I=>?_);clear hK K;refine norm_ (a':=?_) ?_ ?_;rotate_left
        ·
         show Act.put _ (some 27) _=_;simp only [Act.put,s0_,s1_,s2_,i64_w,i32_w];rfl
        refine pure_ (i:=12) (N:=some 6) (v:=?_) (a':=?_) #[y_,y_,y_,y_,y_,y_,y_,y_,y_,y_,y_,y_,y_] rfl rfl (any_of D.1 (by kernel_rfl)) (fun _ _ _ h=>h) (Or.inl ⟨by rfl,?_⟩) ?_ ?_;rotate_left
        ·
         intro w';go_simp;with_reducible rfl
        rotate_left
        ·
         simp only [Act.put,s0_,s1_,s2_,i64_w,i32_w];rfl
        refine done_ (done_of D.1 (by kernel_rfl)) ?_;try go_wp2
        replace Q:=rdr Q;replace G:=hdr G;refine start_ (n:=13) (S:=fun w'=>True) (ds:=[]) #[n_,n_,n_,n_,n_,n_,n_,n_,n_,n_,n_,n_,n_] (by kernel_rfl) rfl rfl trivial (fun I=>?_);refine with_tabW bellpullref05_Less.tab6 bellpullref05_Less.bits6 (fun D a6=>?_);generalize f8.drew=g8 at Q G I ⊢;refine pure_ (i:=0) (N:=some 28) (v:=?_) (a':=?_) #[y_,n_,n_,n_,n_,n_,n_,n_,n_,n_,n_,n_,n_] rfl rfl (any_of D.1 (by kernel_rfl)) (fun _ _ _ h=>h) (Or.inl ⟨by rfl,?_⟩) ?_ ?_;rotate_left
        ·
         intro w';go_simp;with_reducible rfl
        rotate_left
        ·
         simp only [Act.put,s0_,s1_,s2_,i64_w,i32_w];rfl
        refine pure_ (i:=1) (N:=some 29) (v:=?_) (a':=?_) #[y_,y_,n_,n_,n_,n_,n_,n_,n_,n_,n_,n_,n_] rfl rfl (any_of D.1 (by kernel_rfl)) (fun _ _ _ h=>h) (Or.inl ⟨by rfl,?_⟩) ?_ ?_;rotate_left
        ·
         intro w';go_simp;with_reducible rfl
        rotate_left
        ·
         simp only [Act.put,s0_,s1_,s2_,i64_w,i32_w];rfl
        refine pure_ (i:=2) (N:=some 30) (v:=undef) (a':=?_) #[y_,y_,y_,n_,n_,n_,n_,n_,n_,n_,n_,n_,n_] rfl rfl (any_of D.1 (by kernel_rfl)) (fun _ _ _ h=>h) (Or.inr ⟨by rfl,rfl⟩) ?_ ?_;rotate_left
        ·
         simp only [Act.put,s0_,s1_,s2_,i64_w,i32_w];rfl
        refine pure_ (i:=3) (N:=some 31) (v:=undef) (a':=?_) #[y_,y_,y_,y_,n_,n_,n_,n_,n_,n_,n_,n_,n_] rfl rfl (any_of D.1 (by kernel_rfl)) (fun _ _ _ h=>h) (Or.inr ⟨by rfl,rfl⟩) ?_ ?_;rotate_left
        ·
         simp only [Act.put,s0_,s1_,s2_,i64_w,i32_w];rfl
        refine pure_ (i:=4) (N:=some 32) (v:=undef) (a':=?_) #[y_,y_,y_,y_,y_,n_,n_,n_,n_,n_,n_,n_,n_] rfl rfl (any_of D.1 (by kernel_rfl)) (fun _ _ _ h=>h) (Or.inr ⟨by rfl,rfl⟩) ?_ ?_;rotate_left
        ·
         simp only [Act.put,s0_,s1_,s2_,i64_w,i32_w];rfl
        refine pure_ (i:=5) (N:=some 33) (v:=undef) (a':=?_) #[y_,y_,y_,y_,y_,y_,n_,n_,n_,n_,n_,n_,n_] rfl rfl (any_of D.1 (by kernel_rfl)) (fun _ _ _ h=>h) (Or.inr ⟨by rfl,rfl⟩) ?_ ?_;rotate_left
        ·
         simp only [Act.put,s0_,s1_,s2_,i64_w,i32_w];rfl
        refine pure_ (i:=6) (N:=some 34) (v:=undef) (a':=?_) #[y_,y_,y_,y_,y_,y_,y_,n_,n_,n_,n_,n_,n_] rfl rfl (any_of D.1 (by kernel_rfl)) (fun _ _ _ h=>h) (Or.inr ⟨by rfl,rfl⟩) ?_ ?_;rotate_left
        ·
         simp only [Act.put,s0_,s1_,s2_,i64_w,i32_w];rfl
        refine pure_ (i:=7) (N:=some 35) (v:=undef) (a':=?_) #[y_,y_,y_,y_,y_,y_,y_,y_,n_,n_,n_,n_,n_] rfl rfl (any_of D.1 (by kernel_rfl)) (fun _ _ _ h=>h) (Or.inr ⟨by rfl,rfl⟩) ?_ ?_;rotate_left
        ·
         simp only [Act.put,s0_,s1_,s2_,i64_w,i32_w];rfl
        refine pure_ (i:=8) (N:=some 36) (v:=undef) (a':=?_) #[y_,y_,y_,y_,y_,y_,y_,y_,y_,n_,n_,n_,n_] rfl rfl (any_of D.1 (by kernel_rfl)) (fun _ _ _ h=>h) (Or.inr ⟨by rfl,rfl⟩) ?_ ?_;rotate_left
        ·
         simp only [Act.put,s0_,s1_,s2_,i64_w,i32_w];rfl
        refine pure_ (i:=9) (N:=some 37) (v:=undef) (a':=?_) #[y_,y_,y_,y_,y_,y_,y_,y_,y_,y_,n_,n_,n_] rfl rfl (any_of D.1 (by kernel_rfl)) (fun _ _ _ h=>h) (Or.inr ⟨by rfl,rfl⟩) ?_ ?_;rotate_left
        ·
         simp only [Act.put,s0_,s1_,s2_,i64_w,i32_w];rfl
        refine pure_ (i:=10) (N:=some 38) (v:=undef) (a':=?_) #[y_,y_,y_,y_,y_,y_,y_,y_,y_,y_,y_,n_,n_] rfl rfl (any_of D.1 (by kernel_rfl)) (fun _ _ _ h=>h) (Or.inr ⟨by rfl,rfl⟩) ?_ ?_;rotate_left
        ·
         simp only [Act.put,s0_,s1_,s2_,i64_w,i32_w];rfl
        refine pure_ (i:=11) (N:=some 39) (v:=?_) (a':=?_) #[y_,y_,y_,y_,y_,y_,y_,y_,y_,y_,y_,y_,n_] rfl rfl (any_of D.1 (by kernel_rfl)) (fun _ _ _ h=>h) (Or.inl ⟨by rfl,?_⟩) ?_ ?_;rotate_left
        ·
         intro w';go_simp;with_reducible rfl
        rotate_left
        ·
         simp only [Act.put,s0_,s1_,s2_,i64_w,i32_w];rfl
        refine pure_ (i:=12) (N:=some 7) (v:=?_) (a':=?_) #[y_,y_,y_,y_,y_,y_,y_,y_,y_,y_,y_,y_,y_] rfl rfl (any_of D.1 (by kernel_rfl)) (fun _ _ _ h=>h) (Or.inl ⟨by rfl,?_⟩) ?_ ?_;rotate_left
        ·
         intro w';go_simp;with_reducible rfl
        rotate_left
        ·
         simp only [Act.put,s0_,s1_,s2_,i64_w,i32_w];rfl
        refine done_ (done_of D.1 (by kernel_rfl)) ?_;try go_wp2
        go_roundg k1
        case measure=>have:=d1.1;omega
        case rel=>exact ⟨(a7),(false),(wrap64 (B + 1)),(by first|rfl|(simp;done)|(simp [*];done)),(by first|rfl|(simp;done)|(simp [*];done)),H',⟨by have:=d1.1;omega⟩,⟨by (with_reducible repeat (first|apply Kd.R_alloc|apply Kd.R_drewN|apply Kd.R_drew));exact Q.1⟩,⟨by repeat (first|(with_reducible first|exact G.1|apply below_alloc|apply pw_below_drewN|apply below_drew1)|exact G.1)⟩⟩
      ·
       rw [if_neg c8] at H;exact absurd H (by simp)
     ·
      rw [if_neg c7] at H;exact absurd H (by simp)
    ·
     rw [if_neg c6] at H;exact absurd H (by simp)
   ·
    rw [if_neg c5] at H;have c5b0:decide (B < (M.length:Int))=false:=decide_eq_false c5;clear c5;simp only [Option.some.injEq,Prod.mk.injEq] at H;obtain ⟨rfl,rfl⟩:=H;go_wp2;go_ret2;exact ⟨_,by first|rfl|(simp [errW_none,errW_some] <;> rfl)|(simp [*,errW_none,errW_some] <;> rfl),by (with_reducible repeat (first|apply Kd.R_alloc|apply Kd.R_drewN|apply Kd.R_drew));exact T.1,by repeat (first|(with_reducible first|exact G.1|apply below_alloc|apply pw_below_drewN|apply below_drew1)|exact G.1)⟩
end Go.Proofs.Ytkonljiembcdlaa.PC
namespace Go.Proofs.Ytkonljiembcdlaa.PC
open Go.Proofs.MyWords Go.RowKit Go.Proofs.YtkonljiembcdlaaW.PrintWords Go.Proofs.YtkonljiembcdlaaW.PrintLast Go.Proofs.YtkonljiembcdlaaW.PrintMore
attribute [local go_sem] max2_int min2_int max_two min_two max_three min_three max_four min_four   -- for this text's walks alone
set_option linter.unusedVariables false
set_option linter.unusedSimpArgs false
attribute [local go_sem] eqGuard_slices eqlnil23 neqnil23 eqlnil58 neqnil58
mutual
def bellpullref05_sums.l0:Nat → List Int → List (List Int) → Int → Option (Bool)
  | 0,_,_,_=>none
  | k + 1,x0,x1,x5=>if x5 < (x1.length:Int) then (if 0 ≤ x5 then ((bellpullref05_Total.f k (rd_L1 x1 x5)).bind fun t423=>(if t423=0 then (bellpullref05_sums.l0 k x0 x1 (wrap64 (x5 + 1))) else ((bellpullref05_Less.f k x0 (rd_L1 x1 x5)).bind fun bt425=>(if bt425.2=true then (if x5 ≤ (x1.length:Int) then ((bellpullref05_sums.f k bt425.1 (x1.drop (x5:Int).toNat)).bind fun t433=>(if t433=true then (some true) else (bellpullref05_sums.l0 k x0 x1 (wrap64 (x5 + 1))))) else (none)) else (bellpullref05_sums.l0 k x0 x1 (wrap64 (x5 + 1))))))) else (none)) else (some false)
def bellpullref05_sums.f:Nat → List Int → List (List Int) → Option (Bool)
  | 0,_,_=>none
  | k + 1,l0,l1=>(bellpullref05_Total.f k l0).bind fun t421=>(if t421=0 then (some true) else (bellpullref05_sums.l0 k l0 l1 0))
end
theorem bellpullref05_sums.mono_l:∀ k,(∀ y0 y1,LeO (bellpullref05_sums.f k y0 y1) (bellpullref05_sums.f (k + 1) y0 y1))∧(∀ y0 y1 y2,LeO (bellpullref05_sums.l0 k y0 y1 y2) (bellpullref05_sums.l0 (k + 1) y0 y1 y2))
  | 0=>⟨fun _ _ r h=>by simp [bellpullref05_sums.f] at h,fun _ _ _ r h=>by simp [bellpullref05_sums.l0] at h⟩
  | k + 1=>by
    obtain ⟨ih0,ih1⟩:=bellpullref05_sums.mono_l k
    refine ⟨?_,?_⟩
    · intro y0 y1
      unfold bellpullref05_sums.f
      with_reducible repeat' first|exact ih0 _ _|exact ih1 _ _ _|exact bellpullref05_Less.mono _ _ _|exact bellpullref05_Total.mono _ _|exact LeO.refl _|exact LeO.none _|refine LeO.ite ?_ ?_|refine LeO.bind ?_ (fun _=>?_)
    · intro y0 y1 y2
      unfold bellpullref05_sums.l0
      with_reducible repeat' first|exact ih0 _ _|exact ih1 _ _ _|exact bellpullref05_Less.mono _ _ _|exact bellpullref05_Total.mono _ _|exact LeO.refl _|exact LeO.none _|refine LeO.ite ?_ ?_|refine LeO.bind ?_ (fun _=>?_)
theorem bellpullref05_sums.mono:∀ a0 a1 k,LeO (bellpullref05_sums.f k a0 a1) (bellpullref05_sums.f (k + 1) a0 a1):=by
  intro a0 a1 k
  obtain ⟨ih0,ih1⟩:=bellpullref05_sums.mono_l k
  exact ih0 a0 a1
set_option maxHeartbeats 8000000 in
set_option maxRecDepth 100000 in
theorem bellpullref05_sums.calls (k:Nat):∀ (A0:Option Addr) (c0:Nat) (Z:List Int) (A1:Option Addr) (c1:Nat) (F:List (List Int)) (r:Bool) (w:World) (e8:Kd.C (Kd.int .i64) w A0 Z.length Z) (e9:Z.length ≤ c0) (f0:Kd.C (Kd.slice 3 (Kd.int .i64)) w A1 F.length F) (f1:F.length ≤ c1) (h:bellpullref05_sums.f k Z F=some r),
    Calls Try.prog 54 #[.slice A0 Z.length c0,.slice A1 F.length c1] w fun e w'=>e=.returned (.bool r)∧Below w.heap.size w w':=by
 induction k using Nat.strongRecOn with
 | _ k ih =>
 intro A0 c0 Z A1 c1 F r w e8 e9 f0 f1 h;cases k with
 | zero=>exact absurd h (by simp [bellpullref05_sums.f])
 | succ k =>
 simp only [bellpullref05_sums.f] at h;have d6:=mk0 e8;have d7:=mk0 e9;clear e8 e9;have a9:=mk0 f0;have g2:=mk0 f1;clear f0 f1;have E:=mk0 (Below.refl w.heap.size w);have H:((bellpullref05_Total.f k Z).bind fun a4=>(if a4=0 then (some true) else (bellpullref05_sums.l0 k Z F 0)))=some r:=h;clear h;replace H:=Option.bind_eq_some_iff.mp H;obtain ⟨a4,g3,H⟩:=H;(try dsimp only at H);have A3:=mk0 g3;clear g3
 by_cases c4:a4=0
 ·
  rw [if_pos c4] at H;have c4b0:(a4 == 0)=true:=beq_iff_eq.mpr c4;have c4b1:(a4 != 0)=false:=bne_eq_false_iff_eq.mpr c4;clear c4;obtain rfl:=Option.some.inj H;go_enter Try.func54,Try.ntmps54;go_wp2_with (first|((with_reducible refine gate_callee (f:=45) rfl ?_);refine goesL_ (some 9) rfl rfl Try.func45 (by kernel_rfl) rfl #[.slice A0 Z.length c0] rfl (by (try simp only [m0_,m1_,m2_]);first|done|rfl|(simp only [l0_,l1_];rfl)) ?_;(with_reducible refine (bellpullref05_Total.calls k _ _ Z a4 _ ?side1 ?side2 A3.1).mono ?_);(case side1=>repeat (first|exact d6.1|(with_reducible refine Kd.C_alloc ?_ _)|(with_reducible refine Kd.C_drewN ?_ _)|(with_reducible refine Kd.C_drew ?_)));(case side2=>exact d7.1);rintro e w' ⟨rfl,⟨nd,rfl⟩⟩;refine ⟨_,rfl,?_⟩));go_ret;exact ⟨by first|rfl|(simp [errW_none,errW_some] <;> rfl)|(simp [*,errW_none,errW_some] <;> rfl),by repeat (first|(with_reducible first|exact E.1|apply below_alloc|apply pw_below_drewN|apply below_drew1)|exact E.1)⟩
 ·
  rw [if_neg c4] at H;have c4b0:(a4 == 0)=false:=beq_eq_false_iff_ne.mpr c4;have c4b1:(a4 != 0)=true:=bne_iff_ne.mpr c4;have H':=mk0 H;clear H;go_enter Try.func54,Try.ntmps54;go_wp2_with (first|((with_reducible refine gate_callee (f:=45) rfl ?_);refine goesL_ (some 9) rfl rfl Try.func45 (by kernel_rfl) rfl #[.slice A0 Z.length c0] rfl (by (try simp only [m0_,m1_,m2_]);first|done|rfl|(simp only [l0_,l1_];rfl)) ?_;(with_reducible refine (bellpullref05_Total.calls k _ _ Z a4 _ ?side1 ?side2 A3.1).mono ?_);(case side1=>repeat (first|exact d6.1|(with_reducible refine Kd.C_alloc ?_ _)|(with_reducible refine Kd.C_drewN ?_ _)|(with_reducible refine Kd.C_drew ?_)));(case side2=>exact d7.1);rintro e w' ⟨rfl,⟨nd,rfl⟩⟩;refine ⟨_,rfl,?_⟩))
  go_loopg [5] k (fun kq v5 w'=>∃ (B:Int),v5=.int .i64 B∧Aside0 (bellpullref05_sums.l0 kq Z F B=some r)∧Aside0 (kq ≤ k)∧Aside0 (Below w.heap.size w w'))
  case atStart=>exact ⟨(0),(by first|rfl|(simp;done)|(simp [*];done)),H',⟨Nat.le_refl _⟩,⟨by repeat (first|(with_reducible first|exact E.1|apply below_alloc|apply pw_below_drewN|apply below_drew1)|exact E.1)⟩⟩
  case round =>
   clear H';try clear c1
   try clear p2
   try clear c4
   try clear c4b0
   try clear c4b1
   obtain ⟨B,rfl,HA,b4,E⟩:=hrel;cases gk with
   | zero=>exact absurd HA.1 (by simp [bellpullref05_sums.l0])
   | succ k1 =>
    have H:=HA.1;clear HA;simp only [bellpullref05_sums.l0] at H
    by_cases c5:B < (F.length:Int)
    ·
     rw [if_pos c5] at H;have c5b0:decide (B < (F.length:Int))=true:=decide_eq_true c5;clear c5
     by_cases c6:0 ≤ B
     ·
      rw [if_pos c6] at H;have c6b0:decide (0 ≤ B)=true:=decide_eq_true c6;clear c6;replace H:=Option.bind_eq_some_iff.mp H;obtain ⟨a5,g4,H⟩:=H;(try dsimp only at H);have A7:=mk0 g4;clear g4
      by_cases c8:a5=0
      ·
       rw [if_pos c8] at H;have c8b0:(a5 == 0)=true:=beq_iff_eq.mpr c8;have c8b1:(a5 != 0)=false:=bne_eq_false_iff_eq.mpr c8;clear c8;have H':=mk0 H;clear H;have Q:0 ≤ (B:Int):=of_decide_eq_true (by first|(with_reducible assumption)|assumption);have R:B < (F.length:Int):=of_decide_eq_true (by first|(with_reducible assumption)|assumption);obtain ⟨L,M,N,a6,D,I,J⟩:=at_L1 a9.1 B Q R;cases a6;replace D:=(E.1.cell (World.block_lt_of_cell? w _ D)).trans D;have V:=mk0 J;have X:=mk0 I;clear J I;replace Q:=eq_true Q;replace R:=eq_true R;go_wp2_with (first|((with_reducible refine gate_callee (f:=45) rfl ?_);refine goesL_ (some 21) rfl rfl Try.func45 (by kernel_rfl) rfl #[.slice M (rd_L1 F B).length N] rfl (by (try simp only [m0_,m1_,m2_]);first|done|rfl|(simp only [l0_,l1_];rfl)) ?_;(with_reducible refine (bellpullref05_Total.calls k1 _ _ (rd_L1 F B) a5 _ ?side1 ?side2 A7.1).mono ?_);(case side1=>repeat (first|exact (Kd.C_below V.1 E.1)|(with_reducible refine Kd.C_alloc ?_ _)|(with_reducible refine Kd.C_drewN ?_ _)|(with_reducible refine Kd.C_drew ?_)));(case side2=>exact X.1);rintro e w' ⟨rfl,⟨nd,rfl⟩⟩;refine ⟨_,rfl,?_⟩));go_roundg k1
       case measure=>have:=b4.1;omega
       case rel=>exact ⟨(wrap64 (B + 1)),(by first|rfl|(simp;done)|(simp [*];done)),H',⟨by have:=b4.1;omega⟩,⟨by repeat (first|(with_reducible first|exact E.1|apply below_alloc|apply pw_below_drewN|apply below_drew1)|exact E.1)⟩⟩
      ·
       rw [if_neg c8] at H;have c8b0:(a5 == 0)=false:=beq_eq_false_iff_ne.mpr c8;have c8b1:(a5 != 0)=true:=bne_iff_ne.mpr c8;replace H:=Option.bind_eq_some_iff.mp H;obtain ⟨⟨a7,g8⟩,g5,H⟩:=H;(try dsimp only at H);have A9:=mk0 g5;clear g5
       by_cases e2:g8=true
       ·
        subst e2;have H1:(if B ≤ (F.length:Int) then ((bellpullref05_sums.f k1 a7 (F.drop (B:Int).toNat)).bind fun b8=>(if b8=true then (some true) else (bellpullref05_sums.l0 k1 Z F (wrap64 (B + 1))))) else (none))=some r:=by rw [if_pos rfl] at H;exact H
        clear H;have H:=H1;clear H1;have c11b0:=eq_true (of_decide_eq_true (by first|(with_reducible assumption)|assumption):0 ≤ B)
        by_cases c12:B ≤ (F.length:Int)
        ·
         rw [if_pos c12] at H;have c12b0:=eq_true c12;have c12b1:decide (B ≤ (F.length:Int))=true:=decide_eq_true c12;clear c12;obtain ⟨Y,b0⟩:∃ y_:List (List Int),y_=(F.drop (B:Int).toNat):=⟨_,rfl⟩
         replace H:((bellpullref05_sums.f k1 a7 Y).bind fun b8=>(if b8=true then (some true) else (bellpullref05_sums.l0 k1 Z F (wrap64 (B + 1)))))=some r:=by first|(rw [b0];with_reducible exact H)|(have f2:=(Option.bind_some _ _).symm.trans H;rw [b0];with_reducible exact f2)|(have f2:=(Option.bind_some _ _).symm.trans H;with_reducible exact f2)|with_reducible exact H|(rw [b0];exact H)|exact H
         have b6:=mk0 b0;clear b0;replace H:=Option.bind_eq_some_iff.mp H;obtain ⟨b8,f3,H⟩:=H;(try dsimp only at H);have g6:=mk0 f3;clear f3
         by_cases e3:b8=true
         ·
          subst e3;have H1:(some true)=some r:=by rw [if_pos rfl] at H;exact H
          clear H;have H:=H1;clear H1;obtain rfl:=Option.some.inj H;have Q:0 ≤ (B:Int):=of_decide_eq_true (by first|(with_reducible assumption)|assumption);have R:B < (F.length:Int):=of_decide_eq_true (by first|(with_reducible assumption)|assumption);obtain ⟨L,M,N,a6,D,I,J⟩:=at_L1 a9.1 B Q R;cases a6;replace D:=(E.1.cell (World.block_lt_of_cell? w _ D)).trans D;have V:=mk0 J;have X:=mk0 I;clear J I;replace Q:=eq_true Q;replace R:=eq_true R;go_wp2_with (first|((with_reducible refine gate_callee (f:=45) rfl ?_);refine goesL_ (some 21) rfl rfl Try.func45 (by kernel_rfl) rfl #[.slice M (rd_L1 F B).length N] rfl (by (try simp only [m0_,m1_,m2_]);first|done|rfl|(simp only [l0_,l1_];rfl)) ?_;(with_reducible refine (bellpullref05_Total.calls k1 _ _ (rd_L1 F B) a5 _ ?side1 ?side2 A7.1).mono ?_);(case side1=>repeat (first|exact (Kd.C_below V.1 E.1)|(with_reducible refine Kd.C_alloc ?_ _)|(with_reducible refine Kd.C_drewN ?_ _)|(with_reducible refine Kd.C_drew ?_)));(case side2=>exact X.1);rintro e w' ⟨rfl,⟨nd,rfl⟩⟩;refine ⟨_,rfl,?_⟩;have a0:0 ≤ (B:Int):=of_decide_eq_true (by first|(with_reducible assumption)|assumption);have a1:B < (F.length:Int):=of_decide_eq_true (by first|(with_reducible assumption)|assumption);obtain ⟨b1,d8,d9,b9,G,T,U⟩:=at_L1 a9.1 B a0 a1;obtain rfl:L=b1:=(by injection b9);replace G:=(E.1.cell (World.block_lt_of_cell? w _ G)).trans G;have a2:=mk0 U;have a3:=mk0 T;clear U T;replace a0:=eq_true a0;replace a1:=eq_true a1;have ea_:=Option.some.inj (D.symm.trans G);injection ea_ with ea_ en_ ec_;subst ea_;subst ec_;clear en_)|((with_reducible refine gate_callee (f:=38) rfl ?_);refine goesL_ (some 29) rfl rfl Try.func38 (by kernel_rfl) rfl #[.slice A0 Z.length c0,.slice M (rd_L1 F B).length N] rfl (by (try simp only [m0_,m1_,m2_]);first|done|rfl|(simp only [l0_,l1_];rfl)) ?_;(with_reducible refine (bellpullref05_Less.calls k1 _ _ Z _ _ (rd_L1 F B) a7 true _ ?side1 ?side2 ?side3 ?side4 A9.1).mono ?_);(case side1=>repeat (first|exact (Kd.C_below d6.1 (by repeat (first|(with_reducible first|exact E.1|apply below_alloc|apply pw_below_drewN|apply below_drew1)|exact E.1)))|(with_reducible refine Kd.C_alloc ?_ _)|(with_reducible refine Kd.C_drewN ?_ _)|(with_reducible refine Kd.C_drew ?_)));(case side2=>exact d7.1);(case side3=>repeat (first|exact (Kd.C_below a2.1 (by repeat (first|(with_reducible first|exact E.1|apply below_alloc|apply pw_below_drewN|apply below_drew1)|exact E.1)))|(with_reducible refine Kd.C_alloc ?_ _)|(with_reducible refine Kd.C_drewN ?_ _)|(with_reducible refine Kd.C_drew ?_)));(case side4=>exact a3.1);rintro e j0 ⟨f4,rfl,b5,hb⟩;refine ⟨_,rfl,?_⟩;have O:=mk0 (Kd.R_lower b5 (below_size (by repeat (first|(with_reducible first|exact E.1|apply below_alloc|apply pw_below_drewN|apply below_drew1)|exact E.1))));replace E:=mk0 (below_step (by repeat (first|(with_reducible first|exact E.1|apply below_alloc|apply pw_below_drewN|apply below_drew1)|exact E.1)) hb);(try clear hb);(try clear b5);have f5:(B:Int) ≤ ((F.length:Int):Int):=of_decide_eq_true (by first|(with_reducible assumption)|assumption);obtain ⟨i0,e4,_,e5,_⟩:=info_parts info23;have b2:F.length ≤ c1:=g2.1;have f6:Kd.C (Kd.slice 3 (Kd.int .i64)) _ (some L) F.length F:=a9.1;have h0:(0:Int) ≤ (B:Int):=of_decide_eq_true (by first|(with_reducible assumption)|assumption);have f7:=cut_from (P:=Try.prog) 58 23 .i64 Try.underlying58 e4 1 e5 (some L) F.length c1 B h0 f5;have c2:=Kd.C_drop (m:=(B:Int).toNat) (c:=c1) f6 (by omega) b2;obtain ⟨h5,c7⟩:∃ AA,AA=(if c1=(B:Int).toNat then (some L) else ((some L):Option Addr).map (·.add ((B:Int).toNat * 1))):=⟨_,rfl⟩;obtain ⟨h6,e0⟩:∃ cc,cc=c1 - (B:Int).toNat:=⟨_,rfl⟩;have c9:Y.length=F.length - (B:Int).toNat:=(by rw [b6.1,l0_] <;> omega);rw [show (F).drop (B:Int).toNat=Y from b6.1.symm] at c2;replace c2:Kd.C (Kd.slice 3 (Kd.int .i64)) _ h5 Y.length Y:=(by rw [c7];exact c2);rw [← c9,← c7,← e0] at f7;have d0:=mk0 c2;have d1:=mk0 (show Y.length ≤ h6 from by rw [c9,e0];exact Nat.sub_le_sub_right b2 _);clear c2 f6 b2 e4 e5 e0;have i1:=mk0 c9;have i2:=mk0 c7;clear c9 c7;replace f5:=eq_true f5;obtain ⟨i3,i4,h1⟩:=Kd.R_slice O.1;subst h1)|(go_at_call 54;(with_reducible refine (ih k1 (by have:=b4.1;omega) _ _ a7 _ _ Y true _ ?side1 ?side2 ?side3 ?side4 g6.1).mono ?_);(case side1=>repeat (first|exact (Kd.R_reads' O.1).2.2|(with_reducible refine Kd.C_alloc ?_ _)|(with_reducible refine Kd.C_drewN ?_ _)|(with_reducible refine Kd.C_drew ?_)));(case side2=>exact (Kd.R_reads' O.1).2.1);(case side3=>repeat (first|exact (Kd.C_below d0.1 E.1)|(with_reducible refine Kd.C_alloc ?_ _)|(with_reducible refine Kd.C_drewN ?_ _)|(with_reducible refine Kd.C_drew ?_)));(case side4=>exact d1.1);rintro e j1 ⟨rfl,hb⟩;replace O:=mk0 (Kd.R_below (by (with_reducible repeat (first|apply Kd.R_alloc|apply Kd.R_drewN|apply Kd.R_drew));exact O.1) hb);replace E:=mk0 (below_step (by repeat (first|(with_reducible first|exact E.1|apply below_alloc|apply pw_below_drewN|apply below_drew1)|exact E.1)) hb);(try clear hb)))
          go_ret;exact ⟨by first|rfl|(simp [errW_none,errW_some] <;> rfl)|(simp [*,errW_none,errW_some] <;> rfl),by repeat (first|(with_reducible first|exact E.1|apply below_alloc|apply pw_below_drewN|apply below_drew1)|exact E.1)⟩
         ·
          replace e3:=Bool.eq_false_iff.mpr e3;subst e3;have H1:(bellpullref05_sums.l0 k1 Z F (wrap64 (B + 1)))=some r:=by rw [if_neg (show ¬ (false=true) by decide)] at H;exact H
          clear H;have H:=H1;clear H1;have H':=mk0 H;clear H;have Q:0 ≤ (B:Int):=of_decide_eq_true (by first|(with_reducible assumption)|assumption);have R:B < (F.length:Int):=of_decide_eq_true (by first|(with_reducible assumption)|assumption);obtain ⟨L,M,N,a6,D,I,J⟩:=at_L1 a9.1 B Q R;cases a6;replace D:=(E.1.cell (World.block_lt_of_cell? w _ D)).trans D;have V:=mk0 J;have X:=mk0 I;clear J I;replace Q:=eq_true Q;replace R:=eq_true R;go_wp2_with (first|((with_reducible refine gate_callee (f:=45) rfl ?_);refine goesL_ (some 21) rfl rfl Try.func45 (by kernel_rfl) rfl #[.slice M (rd_L1 F B).length N] rfl (by (try simp only [m0_,m1_,m2_]);first|done|rfl|(simp only [l0_,l1_];rfl)) ?_;(with_reducible refine (bellpullref05_Total.calls k1 _ _ (rd_L1 F B) a5 _ ?side1 ?side2 A7.1).mono ?_);(case side1=>repeat (first|exact (Kd.C_below V.1 E.1)|(with_reducible refine Kd.C_alloc ?_ _)|(with_reducible refine Kd.C_drewN ?_ _)|(with_reducible refine Kd.C_drew ?_)));(case side2=>exact X.1);rintro e w' ⟨rfl,⟨nd,rfl⟩⟩;refine ⟨_,rfl,?_⟩;have a0:0 ≤ (B:Int):=of_decide_eq_true (by first|(with_reducible assumption)|assumption);have a1:B < (F.length:Int):=of_decide_eq_true (by first|(with_reducible assumption)|assumption);obtain ⟨b1,d8,d9,b9,G,T,U⟩:=at_L1 a9.1 B a0 a1;obtain rfl:L=b1:=(by injection b9);replace G:=(E.1.cell (World.block_lt_of_cell? w _ G)).trans G;have a2:=mk0 U;have a3:=mk0 T;clear U T;replace a0:=eq_true a0;replace a1:=eq_true a1;have ea_:=Option.some.inj (D.symm.trans G);injection ea_ with ea_ en_ ec_;subst ea_;subst ec_;clear en_)|((with_reducible refine gate_callee (f:=38) rfl ?_);refine goesL_ (some 29) rfl rfl Try.func38 (by kernel_rfl) rfl #[.slice A0 Z.length c0,.slice M (rd_L1 F B).length N] rfl (by (try simp only [m0_,m1_,m2_]);first|done|rfl|(simp only [l0_,l1_];rfl)) ?_;(with_reducible refine (bellpullref05_Less.calls k1 _ _ Z _ _ (rd_L1 F B) a7 true _ ?side1 ?side2 ?side3 ?side4 A9.1).mono ?_);(case side1=>repeat (first|exact (Kd.C_below d6.1 (by repeat (first|(with_reducible first|exact E.1|apply below_alloc|apply pw_below_drewN|apply below_drew1)|exact E.1)))|(with_reducible refine Kd.C_alloc ?_ _)|(with_reducible refine Kd.C_drewN ?_ _)|(with_reducible refine Kd.C_drew ?_)));(case side2=>exact d7.1);(case side3=>repeat (first|exact (Kd.C_below a2.1 (by repeat (first|(with_reducible first|exact E.1|apply below_alloc|apply pw_below_drewN|apply below_drew1)|exact E.1)))|(with_reducible refine Kd.C_alloc ?_ _)|(with_reducible refine Kd.C_drewN ?_ _)|(with_reducible refine Kd.C_drew ?_)));(case side4=>exact a3.1);rintro e j2 ⟨f4,rfl,b5,hb⟩;refine ⟨_,rfl,?_⟩;have O:=mk0 (Kd.R_lower b5 (below_size (by repeat (first|(with_reducible first|exact E.1|apply below_alloc|apply pw_below_drewN|apply below_drew1)|exact E.1))));replace E:=mk0 (below_step (by repeat (first|(with_reducible first|exact E.1|apply below_alloc|apply pw_below_drewN|apply below_drew1)|exact E.1)) hb);(try clear hb);(try clear b5);have f8:(B:Int) ≤ ((F.length:Int):Int):=of_decide_eq_true (by first|(with_reducible assumption)|assumption);obtain ⟨i5,e6,_,e7,_⟩:=info_parts info23;have b3:F.length ≤ c1:=g2.1;have f9:Kd.C (Kd.slice 3 (Kd.int .i64)) _ (some L) F.length F:=a9.1;have h2:(0:Int) ≤ (B:Int):=of_decide_eq_true (by first|(with_reducible assumption)|assumption);have g0:=cut_from (P:=Try.prog) 58 23 .i64 Try.underlying58 e6 1 e7 (some L) F.length c1 B h2 f8;have c3:=Kd.C_drop (m:=(B:Int).toNat) (c:=c1) f9 (by omega) b3;obtain ⟨h7,d2⟩:∃ AA,AA=(if c1=(B:Int).toNat then (some L) else ((some L):Option Addr).map (·.add ((B:Int).toNat * 1))):=⟨_,rfl⟩;obtain ⟨h8,e1⟩:∃ cc,cc=c1 - (B:Int).toNat:=⟨_,rfl⟩;have d3:Y.length=F.length - (B:Int).toNat:=(by rw [b6.1,l0_] <;> omega);rw [show (F).drop (B:Int).toNat=Y from b6.1.symm] at c3;replace c3:Kd.C (Kd.slice 3 (Kd.int .i64)) _ h7 Y.length Y:=(by rw [d2];exact c3);rw [← d3,← d2,← e1] at g0;have d0:=mk0 c3;have d1:=mk0 (show Y.length ≤ h8 from by rw [d3,e1];exact Nat.sub_le_sub_right b3 _);clear c3 f9 b3 e6 e7 e1;have i6:=mk0 d3;have i7:=mk0 d2;clear d3 d2;replace f8:=eq_true f8;obtain ⟨i8,i9,h3⟩:=Kd.R_slice O.1;subst h3)|(go_at_call 54;(with_reducible refine (ih k1 (by have:=b4.1;omega) _ _ a7 _ _ Y false _ ?side1 ?side2 ?side3 ?side4 g6.1).mono ?_);(case side1=>repeat (first|exact (Kd.R_reads' O.1).2.2|(with_reducible refine Kd.C_alloc ?_ _)|(with_reducible refine Kd.C_drewN ?_ _)|(with_reducible refine Kd.C_drew ?_)));(case side2=>exact (Kd.R_reads' O.1).2.1);(case side3=>repeat (first|exact (Kd.C_below d0.1 E.1)|(with_reducible refine Kd.C_alloc ?_ _)|(with_reducible refine Kd.C_drewN ?_ _)|(with_reducible refine Kd.C_drew ?_)));(case side4=>exact d1.1);rintro e j3 ⟨rfl,hb⟩;replace O:=mk0 (Kd.R_below (by (with_reducible repeat (first|apply Kd.R_alloc|apply Kd.R_drewN|apply Kd.R_drew));exact O.1) hb);replace E:=mk0 (below_step (by repeat (first|(with_reducible first|exact E.1|apply below_alloc|apply pw_below_drewN|apply below_drew1)|exact E.1)) hb);(try clear hb)))
          go_roundg k1
          case measure=>have:=b4.1;omega
          case rel=>exact ⟨(wrap64 (B + 1)),(by first|rfl|(simp;done)|(simp [*];done)),H',⟨by have:=b4.1;omega⟩,⟨by repeat (first|(with_reducible first|exact E.1|apply below_alloc|apply pw_below_drewN|apply below_drew1)|exact E.1)⟩⟩
        ·
         rw [if_neg c12] at H;exact absurd H (by simp)
       ·
        replace e2:=Bool.eq_false_iff.mpr e2;subst e2;have H1:(bellpullref05_sums.l0 k1 Z F (wrap64 (B + 1)))=some r:=by rw [if_neg (show ¬ (false=true) by decide)] at H;exact H
        clear H;have H:=H1;clear H1;have H':=mk0 H;clear H;have Q:0 ≤ (B:Int):=of_decide_eq_true (by first|(with_reducible assumption)|assumption);have R:B < (F.length:Int):=of_decide_eq_true (by first|(with_reducible assumption)|assumption);obtain ⟨L,M,N,a6,D,I,J⟩:=at_L1 a9.1 B Q R;cases a6;replace D:=(E.1.cell (World.block_lt_of_cell? w _ D)).trans D;have V:=mk0 J;have X:=mk0 I;clear J I;replace Q:=eq_true Q;replace R:=eq_true R;go_wp2_with (first|((with_reducible refine gate_callee (f:=45) rfl ?_);refine goesL_ (some 21) rfl rfl Try.func45 (by kernel_rfl) rfl #[.slice M (rd_L1 F B).length N] rfl (by (try simp only [m0_,m1_,m2_]);first|done|rfl|(simp only [l0_,l1_];rfl)) ?_;(with_reducible refine (bellpullref05_Total.calls k1 _ _ (rd_L1 F B) a5 _ ?side1 ?side2 A7.1).mono ?_);(case side1=>repeat (first|exact (Kd.C_below V.1 E.1)|(with_reducible refine Kd.C_alloc ?_ _)|(with_reducible refine Kd.C_drewN ?_ _)|(with_reducible refine Kd.C_drew ?_)));(case side2=>exact X.1);rintro e w' ⟨rfl,⟨nd,rfl⟩⟩;refine ⟨_,rfl,?_⟩;have a0:0 ≤ (B:Int):=of_decide_eq_true (by first|(with_reducible assumption)|assumption);have a1:B < (F.length:Int):=of_decide_eq_true (by first|(with_reducible assumption)|assumption);obtain ⟨b1,d8,d9,b9,G,T,U⟩:=at_L1 a9.1 B a0 a1;obtain rfl:L=b1:=(by injection b9);replace G:=(E.1.cell (World.block_lt_of_cell? w _ G)).trans G;have a2:=mk0 U;have a3:=mk0 T;clear U T;replace a0:=eq_true a0;replace a1:=eq_true a1;have ea_:=Option.some.inj (D.symm.trans G);injection ea_ with ea_ en_ ec_;subst ea_;subst ec_;clear en_)|((with_reducible refine gate_callee (f:=38) rfl ?_);refine goesL_ (some 29) rfl rfl Try.func38 (by kernel_rfl) rfl #[.slice A0 Z.length c0,.slice M (rd_L1 F B).length N] rfl (by (try simp only [m0_,m1_,m2_]);first|done|rfl|(simp only [l0_,l1_];rfl)) ?_;(with_reducible refine (bellpullref05_Less.calls k1 _ _ Z _ _ (rd_L1 F B) a7 false _ ?side1 ?side2 ?side3 ?side4 A9.1).mono ?_);(case side1=>repeat (first|exact (Kd.C_below d6.1 (by repeat (first|(with_reducible first|exact E.1|apply below_alloc|apply pw_below_drewN|apply below_drew1)|exact E.1)))|(with_reducible refine Kd.C_alloc ?_ _)|(with_reducible refine Kd.C_drewN ?_ _)|(with_reducible refine Kd.C_drew ?_)));(case side2=>exact d7.1);(case side3=>repeat (first|exact (Kd.C_below a2.1 (by repeat (first|(with_reducible first|exact E.1|apply below_alloc|apply pw_below_drewN|apply below_drew1)|exact E.1)))|(with_reducible refine Kd.C_alloc ?_ _)|(with_reducible refine Kd.C_drewN ?_ _)|(with_reducible refine Kd.C_drew ?_)));(case side4=>exact a3.1);rintro e j4 ⟨f4,rfl,b5,hb⟩;refine ⟨_,rfl,?_⟩;have O:=mk0 (Kd.R_lower b5 (below_size (by repeat (first|(with_reducible first|exact E.1|apply below_alloc|apply pw_below_drewN|apply below_drew1)|exact E.1))));replace E:=mk0 (below_step (by repeat (first|(with_reducible first|exact E.1|apply below_alloc|apply pw_below_drewN|apply below_drew1)|exact E.1)) hb);(try clear hb);(try clear b5)));go_roundg k1
        case measure=>have:=b4.1;omega
        case rel=>exact ⟨(wrap64 (B + 1)),(by first|rfl|(simp;done)|(simp [*];done)),H',⟨by have:=b4.1;omega⟩,⟨by repeat (first|(with_reducible first|exact E.1|apply below_alloc|apply pw_below_drewN|apply below_drew1)|exact E.1)⟩⟩
     ·
      rw [if_neg c6] at H;exact absurd H (by simp)
    ·
     rw [if_neg c5] at H;have c5b0:decide (B < (F.length:Int))=false:=decide_eq_false c5;clear c5;obtain rfl:=Option.some.inj H;go_wp2;go_ret;exact ⟨by first|rfl|(simp [errW_none,errW_some] <;> rfl)|(simp [*,errW_none,errW_some] <;> rfl),by repeat (first|(with_reducible first|exact E.1|apply below_alloc|apply pw_below_drewN|apply below_drew1)|exact E.1)⟩
end Go.Proofs.Ytkonljiembcdlaa.PC
namespace Go.Proofs.Ytkonljiembcdlaa.PC
open Go.Proofs.MyWords Go.RowKit Go.Proofs.YtkonljiembcdlaaW.PrintWords Go.Proofs.YtkonljiembcdlaaW.PrintLast Go.Proofs.YtkonljiembcdlaaW.PrintMore
attribute [local go_sem] max2_int min2_int max_two min_two max_three min_three max_four min_four   -- for this text's walks alone
set_option linter.unusedVariables false
set_option linter.unusedSimpArgs false
attribute [local go_sem] eqGuard_slices eqlnil23 neqnil23 eqlnil58 neqnil58
def bellpullref05_Has.l0:Nat → List (S60) → List Int → Int → Option (Bool)
  | 0,_,_,_=>none
  | k + 1,x0,x1,x5=>if x5 < (x0.length:Int) then (if 0 ≤ x5 then ((bellpullref05_Less.f k x1 ((rd_T60 x0 x5).f0)).bind fun bt435=>(if bt435.2=true then ((bellpullref05_sums.f k bt435.1 ((rd_T60 x0 x5).f1)).bind fun t440=>(if t440=true then (some true) else (bellpullref05_Has.l0 k x0 x1 (wrap64 (x5 + 1))))) else (bellpullref05_Has.l0 k x0 x1 (wrap64 (x5 + 1))))) else (none)) else (some false)
def bellpullref05_Has.f (k:Nat) (l0:List (S60)) (l1:List Int):Option (Bool):=bellpullref05_Has.l0 k l0 l1 0
theorem bellpullref05_Has.mono_l:∀ k,(∀ y0 y1 y2,LeO (bellpullref05_Has.l0 k y0 y1 y2) (bellpullref05_Has.l0 (k + 1) y0 y1 y2))
  | 0=>fun _ _ _ r h=>by simp [bellpullref05_Has.l0] at h
  | k + 1=>by
    have ih0:=bellpullref05_Has.mono_l k
    · intro y0 y1 y2
      unfold bellpullref05_Has.l0
      with_reducible repeat' first|exact ih0 _ _ _|exact bellpullref05_Less.mono _ _ _|exact bellpullref05_sums.mono _ _ _|exact LeO.refl _|exact LeO.none _|refine LeO.ite ?_ ?_|refine LeO.bind ?_ (fun _=>?_)
theorem bellpullref05_Has.mono:∀ a0 a1 k,LeO (bellpullref05_Has.f k a0 a1) (bellpullref05_Has.f (k + 1) a0 a1):=by
  intro a0 a1 k
  have ih0:=bellpullref05_Has.mono_l k
  unfold bellpullref05_Has.f
  with_reducible repeat' first|exact ih0 _ _ _|exact bellpullref05_Less.mono _ _ _|exact bellpullref05_sums.mono _ _ _|exact LeO.refl _|exact LeO.none _|refine LeO.ite ?_ ?_|refine LeO.bind ?_ (fun _=>?_)
set_option maxHeartbeats 8000000 in
set_option maxRecDepth 100000 in
theorem bellpullref05_Has.calls (k:Nat) (A0:Option Addr) (c0:Nat) (N:List (S60)) (A1:Option Addr) (c1:Nat) (l1:List Int) (r:Bool) (w:World) (e2:Kd.C k60 w A0 N.length N) (e3:N.length ≤ c0) (e4:Kd.C (Kd.int .i64) w A1 l1.length l1) (e5:l1.length ≤ c1) (h:bellpullref05_Has.f k N l1=some r) :
    Calls Try.prog 24 #[.slice A0 N.length c0,.slice A1 l1.length c1] w fun e w'=>e=.returned (.bool r)∧Below w.heap.size w w':=by
 have b6:=mk0 e2;have g2:=mk0 e3;clear e2 e3;have d3:=mk0 e4;have d4:=mk0 e5;clear e4 e5;have D:=mk0 (Below.refl w.heap.size w);have H:(bellpullref05_Has.l0 k N l1 0)=some r:=h;clear h;have H':=mk0 H;clear H;go_enter Try.func24,Try.ntmps24;go_wp2
 go_loopg [5] k (fun kq v5 w'=>∃ (B:Int),v5=.int .i64 B∧Aside0 (bellpullref05_Has.l0 kq N l1 B=some r)∧Aside0 (kq ≤ k)∧Aside0 (Below w.heap.size w w'))
 case atStart=>exact ⟨(0),(by first|rfl|(simp;done)|(simp [*];done)),H',⟨Nat.le_refl _⟩,⟨by repeat (first|(with_reducible first|exact D.1|apply below_alloc|apply pw_below_drewN|apply below_drew1)|exact D.1)⟩⟩
 case round =>
  clear H';try clear c1
  try clear c2
  try clear p2
  obtain ⟨B,rfl,HA,c7,D⟩:=hrel;cases gk with
  | zero=>exact absurd HA.1 (by simp [bellpullref05_Has.l0])
  | succ k1 =>
   have H:=HA.1;clear HA;simp only [bellpullref05_Has.l0] at H
   by_cases c3:B < (N.length:Int)
   ·
    rw [if_pos c3] at H;have c3b0:decide (B < (N.length:Int))=true:=decide_eq_true c3;clear c3
    by_cases c4:0 ≤ B
    ·
     rw [if_pos c4] at H;have c4b0:decide (0 ≤ B)=true:=decide_eq_true c4;clear c4;replace H:=Option.bind_eq_some_iff.mp H;obtain ⟨⟨a6,e8⟩,e6,H⟩:=H;(try dsimp only at H);have A5:=mk0 e6;clear e6
     by_cases c6:e8=true
     ·
      subst c6;have H1:((bellpullref05_sums.f k1 a6 ((rd_T60 N B).f1)).bind fun b9=>(if b9=true then (some true) else (bellpullref05_Has.l0 k1 N l1 (wrap64 (B + 1)))))=some r:=by rw [if_pos rfl] at H;exact H
      clear H;have H:=H1;clear H1;replace H:=Option.bind_eq_some_iff.mp H;obtain ⟨b9,e7,H⟩:=H;(try dsimp only at H);have A7:=mk0 e7;clear e7
      by_cases c8:b9=true
      ·
       subst c8;have H1:(some true)=some r:=by rw [if_pos rfl] at H;exact H
       clear H;have H:=H1;clear H1;obtain rfl:=Option.some.inj H;have R:0 ≤ (B:Int):=of_decide_eq_true (by first|(with_reducible assumption)|assumption);have T:B < (N.length:Int):=of_decide_eq_true (by first|(with_reducible assumption)|assumption);obtain ⟨b0,a1,a2,b7,b8,b2,E,F,I,J,L,M⟩:=at_T60 b6.1 B R T;cases b2;replace E:=(D.1.cell (World.block_lt_of_cell? w _ E)).trans E;replace F:=(D.1.cell (World.block_lt_of_cell? w _ F)).trans F;have U:=mk0 J;have V:=mk0 I;clear J I;have b3:=mk0 M;have b4:=mk0 L;clear M L;replace R:=eq_true R;replace T:=eq_true T;go_wp2_with (first|((with_reducible refine gate_callee (f:=38) rfl ?_);refine goesL_ (some 21) rfl rfl Try.func38 (by kernel_rfl) rfl #[.slice A1 l1.length c1,.slice a1 ((rd_T60 N B).f0).length a2] rfl (by (try simp only [m0_,m1_,m2_]);first|done|rfl|(simp only [l0_,l1_];rfl)) ?_;(with_reducible refine (bellpullref05_Less.calls k1 _ _ l1 _ _ ((rd_T60 N B).f0) a6 true _ ?side1 ?side2 ?side3 ?side4 A5.1).mono ?_);(case side1=>repeat (first|exact (Kd.C_below d3.1 D.1)|(with_reducible refine Kd.C_alloc ?_ _)|(with_reducible refine Kd.C_drewN ?_ _)|(with_reducible refine Kd.C_drew ?_)));(case side2=>exact d4.1);(case side3=>repeat (first|exact (Kd.C_below U.1 D.1)|(with_reducible refine Kd.C_alloc ?_ _)|(with_reducible refine Kd.C_drewN ?_ _)|(with_reducible refine Kd.C_drew ?_)));(case side4=>exact V.1);rintro e w9 ⟨d5,rfl,a9,hb⟩;refine ⟨_,rfl,?_⟩;have G:=mk0 (Kd.R_lower a9 (below_size D.1));replace D:=bst D hb;(try clear hb);(try clear a9);have a4:0 ≤ (B:Int):=of_decide_eq_true (by first|(with_reducible assumption)|assumption);have a5:B < (N.length:Int):=of_decide_eq_true (by first|(with_reducible assumption)|assumption);obtain ⟨b5,d6,d7,d8,d9,c5,O,Q,X,Y,Z,a0⟩:=at_T60 b6.1 B a4 a5;obtain rfl:b0=b5:=(by injection c5);replace O:=(D.1.cell (World.block_lt_of_cell? w _ O)).trans O;replace Q:=(D.1.cell (World.block_lt_of_cell? w _ Q)).trans Q;have d0:=mk0 Y;have d1:=mk0 X;clear Y X;have a7:=mk0 a0;have a8:=mk0 Z;clear a0 Z;replace a4:=eq_true a4;replace a5:=eq_true a5;obtain ⟨f8,f9,f2⟩:=Kd.R_slice G.1;subst f2)|(go_at_call 54;(with_reducible refine (bellpullref05_sums.calls k1 _ _ a6 _ _ ((rd_T60 N B).f1) true _ ?side1 ?side2 ?side3 ?side4 A7.1).mono ?_);(case side1=>repeat (first|exact (Kd.R_reads' G.1).2.2|(with_reducible refine Kd.C_alloc ?_ _)|(with_reducible refine Kd.C_drewN ?_ _)|(with_reducible refine Kd.C_drew ?_)));(case side2=>exact (Kd.R_reads' G.1).2.1);(case side3=>repeat (first|exact (Kd.C_below a7.1 D.1)|(with_reducible refine Kd.C_alloc ?_ _)|(with_reducible refine Kd.C_drewN ?_ _)|(with_reducible refine Kd.C_drew ?_)));(case side4=>exact a8.1);rintro e g3 ⟨rfl,hb⟩;replace G:=rbl G hb;replace D:=bst D hb;(try clear hb)));go_ret;exact ⟨by first|rfl|(simp [errW_none,errW_some] <;> rfl)|(simp [*,errW_none,errW_some] <;> rfl),by repeat (first|(with_reducible first|exact D.1|apply below_alloc|apply pw_below_drewN|apply below_drew1)|exact D.1)⟩
      ·
       replace c8:=Bool.eq_false_iff.mpr c8;subst c8;have H1:(bellpullref05_Has.l0 k1 N l1 (wrap64 (B + 1)))=some r:=by rw [if_neg (show ¬ (false=true) by decide)] at H;exact H
       clear H;have H:=H1;clear H1;have H':=mk0 H;clear H;have R:0 ≤ (B:Int):=of_decide_eq_true (by first|(with_reducible assumption)|assumption);have T:B < (N.length:Int):=of_decide_eq_true (by first|(with_reducible assumption)|assumption);obtain ⟨b0,a1,a2,b7,b8,b2,E,F,I,J,L,M⟩:=at_T60 b6.1 B R T;cases b2;replace E:=(D.1.cell (World.block_lt_of_cell? w _ E)).trans E;replace F:=(D.1.cell (World.block_lt_of_cell? w _ F)).trans F;have U:=mk0 J;have V:=mk0 I;clear J I;have b3:=mk0 M;have b4:=mk0 L;clear M L;replace R:=eq_true R;replace T:=eq_true T;go_wp2_with (first|((with_reducible refine gate_callee (f:=38) rfl ?_);refine goesL_ (some 21) rfl rfl Try.func38 (by kernel_rfl) rfl #[.slice A1 l1.length c1,.slice a1 ((rd_T60 N B).f0).length a2] rfl (by (try simp only [m0_,m1_,m2_]);first|done|rfl|(simp only [l0_,l1_];rfl)) ?_;(with_reducible refine (bellpullref05_Less.calls k1 _ _ l1 _ _ ((rd_T60 N B).f0) a6 true _ ?side1 ?side2 ?side3 ?side4 A5.1).mono ?_);(case side1=>repeat (first|exact (Kd.C_below d3.1 D.1)|(with_reducible refine Kd.C_alloc ?_ _)|(with_reducible refine Kd.C_drewN ?_ _)|(with_reducible refine Kd.C_drew ?_)));(case side2=>exact d4.1);(case side3=>repeat (first|exact (Kd.C_below U.1 D.1)|(with_reducible refine Kd.C_alloc ?_ _)|(with_reducible refine Kd.C_drewN ?_ _)|(with_reducible refine Kd.C_drew ?_)));(case side4=>exact V.1);rintro e g4 ⟨d5,rfl,a9,hb⟩;refine ⟨_,rfl,?_⟩;have G:=mk0 (Kd.R_lower a9 (below_size D.1));replace D:=bst D hb;(try clear hb);(try clear a9);have a4:0 ≤ (B:Int):=of_decide_eq_true (by first|(with_reducible assumption)|assumption);have a5:B < (N.length:Int):=of_decide_eq_true (by first|(with_reducible assumption)|assumption);obtain ⟨b5,d6,d7,d8,d9,c5,O,Q,X,Y,Z,a0⟩:=at_T60 b6.1 B a4 a5;obtain rfl:b0=b5:=(by injection c5);replace O:=(D.1.cell (World.block_lt_of_cell? w _ O)).trans O;replace Q:=(D.1.cell (World.block_lt_of_cell? w _ Q)).trans Q;have d0:=mk0 Y;have d1:=mk0 X;clear Y X;have a7:=mk0 a0;have a8:=mk0 Z;clear a0 Z;replace a4:=eq_true a4;replace a5:=eq_true a5;obtain ⟨g0,g1,f3⟩:=Kd.R_slice G.1;subst f3)|(go_at_call 54;(with_reducible refine (bellpullref05_sums.calls k1 _ _ a6 _ _ ((rd_T60 N B).f1) false _ ?side1 ?side2 ?side3 ?side4 A7.1).mono ?_);(case side1=>repeat (first|exact (Kd.R_reads' G.1).2.2|(with_reducible refine Kd.C_alloc ?_ _)|(with_reducible refine Kd.C_drewN ?_ _)|(with_reducible refine Kd.C_drew ?_)));(case side2=>exact (Kd.R_reads' G.1).2.1);(case side3=>repeat (first|exact (Kd.C_below a7.1 D.1)|(with_reducible refine Kd.C_alloc ?_ _)|(with_reducible refine Kd.C_drewN ?_ _)|(with_reducible refine Kd.C_drew ?_)));(case side4=>exact a8.1);rintro e g5 ⟨rfl,hb⟩;replace G:=rbl G hb;replace D:=bst D hb;(try clear hb)));go_roundg k1
       case measure=>have:=c7.1;omega
       case rel=>exact ⟨(wrap64 (B + 1)),(by first|rfl|(simp;done)|(simp [*];done)),H',⟨by have:=c7.1;omega⟩,⟨by repeat (first|(with_reducible first|exact D.1|apply below_alloc|apply pw_below_drewN|apply below_drew1)|exact D.1)⟩⟩
     ·
      replace c6:=Bool.eq_false_iff.mpr c6;subst c6;have H1:(bellpullref05_Has.l0 k1 N l1 (wrap64 (B + 1)))=some r:=by rw [if_neg (show ¬ (false=true) by decide)] at H;exact H
      clear H;have H:=H1;clear H1;have H':=mk0 H;clear H;have R:0 ≤ (B:Int):=of_decide_eq_true (by first|(with_reducible assumption)|assumption);have T:B < (N.length:Int):=of_decide_eq_true (by first|(with_reducible assumption)|assumption);obtain ⟨b0,a1,a2,b7,b8,b2,E,F,I,J,L,M⟩:=at_T60 b6.1 B R T;cases b2;replace E:=(D.1.cell (World.block_lt_of_cell? w _ E)).trans E;replace F:=(D.1.cell (World.block_lt_of_cell? w _ F)).trans F;have U:=mk0 J;have V:=mk0 I;clear J I;have b3:=mk0 M;have b4:=mk0 L;clear M L;replace R:=eq_true R;replace T:=eq_true T;go_wp2_with (first|((with_reducible refine gate_callee (f:=38) rfl ?_);refine goesL_ (some 21) rfl rfl Try.func38 (by kernel_rfl) rfl #[.slice A1 l1.length c1,.slice a1 ((rd_T60 N B).f0).length a2] rfl (by (try simp only [m0_,m1_,m2_]);first|done|rfl|(simp only [l0_,l1_];rfl)) ?_;(with_reducible refine (bellpullref05_Less.calls k1 _ _ l1 _ _ ((rd_T60 N B).f0) a6 false _ ?side1 ?side2 ?side3 ?side4 A5.1).mono ?_);(case side1=>repeat (first|exact (Kd.C_below d3.1 D.1)|(with_reducible refine Kd.C_alloc ?_ _)|(with_reducible refine Kd.C_drewN ?_ _)|(with_reducible refine Kd.C_drew ?_)));(case side2=>exact d4.1);(case side3=>repeat (first|exact (Kd.C_below U.1 D.1)|(with_reducible refine Kd.C_alloc ?_ _)|(with_reducible refine Kd.C_drewN ?_ _)|(with_reducible refine Kd.C_drew ?_)));(case side4=>exact V.1);rintro e g6 ⟨d5,rfl,a9,hb⟩;refine ⟨_,rfl,?_⟩;have G:=mk0 (Kd.R_lower a9 (below_size D.1));replace D:=bst D hb;(try clear hb);(try clear a9)));go_roundg k1
      case measure=>have:=c7.1;omega
      case rel=>exact ⟨(wrap64 (B + 1)),(by first|rfl|(simp;done)|(simp [*];done)),H',⟨by have:=c7.1;omega⟩,⟨by repeat (first|(with_reducible first|exact D.1|apply below_alloc|apply pw_below_drewN|apply below_drew1)|exact D.1)⟩⟩
    ·
     rw [if_neg c4] at H;exact absurd H (by simp)
   ·
    rw [if_neg c3] at H;have c3b0:decide (B < (N.length:Int))=false:=decide_eq_false c3;clear c3;obtain rfl:=Option.some.inj H;go_wp2;go_ret;exact ⟨by first|rfl|(simp [errW_none,errW_some] <;> rfl)|(simp [*,errW_none,errW_some] <;> rfl),by repeat (first|(with_reducible first|exact D.1|apply below_alloc|apply pw_below_drewN|apply below_drew1)|exact D.1)⟩
end Go.Proofs.Ytkonljiembcdlaa.PC
namespace Go.Proofs.Ytkonljiembcdlaa.PC
open Go.Proofs.MyWords Go.RowKit Go.Proofs.YtkonljiembcdlaaW.PrintWords Go.Proofs.YtkonljiembcdlaaW.PrintLast Go.Proofs.YtkonljiembcdlaaW.PrintMore
attribute [local go_sem] max2_int min2_int max_two min_two max_three min_three max_four min_four   -- for this text's walks alone
set_option linter.unusedVariables false
set_option linter.unusedSimpArgs false
attribute [local go_sem] eqGuard_slices eqlnil23 neqnil23 eqlnil58 neqnil58
mutual
def bellpulllaw05_CountHas.j0:Nat → List (S60) → List Int → Int → Bool → Int → Int → List (S60) → List (S60) → List Int → Option (Bool)
  | 0,_,_,_,_,_,_,_,_,_=>none
  | k + 1,x3,x4,x5,x25,x442000,x442001,x442002,x442003,x442004=>if x25=true then (bellpulllaw05_CountHas.l0 k x3 x4 x5 0 x442000 x442001 x442002 x442003 x442004) else (bellpulllaw05_CountHas.j2 k x3 x4 x5 x442000 x442001 x442002 x442003 x442004)
def bellpulllaw05_CountHas.j2:Nat → List (S60) → List Int → Int → Int → Int → List (S60) → List (S60) → List Int → Option (Bool)
  | 0,_,_,_,_,_,_,_,_=>none
  | k + 1,x3,x4,x5,x442000,x442001,x442002,x442003,x442004=>if x5=0 then (bellpulllaw05_CountHas.j3 k x3 x4 x5 ((x4.length:Int) != x442000) x442000 x442001 x442002 x442003 x442004) else (bellpulllaw05_CountHas.j3 k x3 x4 x5 false x442000 x442001 x442002 x442003 x442004)
def bellpulllaw05_CountHas.j3:Nat → List (S60) → List Int → Int → Bool → Int → Int → List (S60) → List (S60) → List Int → Option (Bool)
  | 0,_,_,_,_,_,_,_,_,_=>none
  | k + 1,x3,x4,x5,x46,x442000,x442001,x442002,x442003,x442004=>if x46=true then (bellpulllaw05_CountHas.j4 k x3 x4 2 x442000 x442001 x442002 x442003 x442004) else (bellpulllaw05_CountHas.j4 k x3 x4 x5 x442000 x442001 x442002 x442003 x442004)
def bellpulllaw05_CountHas.j4:Nat → List (S60) → List Int → Int → Int → Int → List (S60) → List (S60) → List Int → Option (Bool)
  | 0,_,_,_,_,_,_,_,_=>none
  | k + 1,x3,x4,x5,x442000,x442001,x442002,x442003,x442004=>if x5=0 then ((bellpulllaw05_heavy.f k x3).bind fun t454=>(bellpulllaw05_CountHas.j5 k x3 x4 x5 t454 x442000 x442001 x442002 x442003 x442004)) else (bellpulllaw05_CountHas.j5 k x3 x4 x5 false x442000 x442001 x442002 x442003 x442004)
def bellpulllaw05_CountHas.j5:Nat → List (S60) → List Int → Int → Bool → Int → Int → List (S60) → List (S60) → List Int → Option (Bool)
  | 0,_,_,_,_,_,_,_,_,_=>none
  | k + 1,x3,x4,x5,x52,x442000,x442001,x442002,x442003,x442004=>if x52=true then ((bellpulllaw05_lives.f k).bind fun t455=>(some t455)) else ((count_Has.f k x442000 x3 x4).bind fun bt456=>(if x5=0 then ((bellpullref05_Has.f k x3 x4).bind fun t458=>(if bt456.1=true then (if t458=true then (if bt456.2=0 then ((bellpulllaw05_lives.f k).bind fun t459=>(some t459)) else (none)) else (none)) else (if t458=true then (none) else (if bt456.2=0 then ((bellpulllaw05_lives.f k).bind fun t460=>(some t460)) else (none))))) else (if bt456.1=true then (none) else (if bt456.2=x5 then ((bellpulllaw05_lives.f k).bind fun t461=>(some t461)) else (none)))))
def bellpulllaw05_CountHas.l0:Nat → List (S60) → List Int → Int → Int → Int → Int → List (S60) → List (S60) → List Int → Option (Bool)
  | 0,_,_,_,_,_,_,_,_,_=>none
  | k + 1,x3,x4,x5,x6,x442000,x442001,x442002,x442003,x442004=>if x6 < (x4.length:Int) then (if 0 ≤ x6 then ((bellpullref01_In.f (rd x4 x6) 0 60).bind fun t453=>(if t453=true then (bellpulllaw05_CountHas.l0 k x3 x4 x5 (wrap64 (x6 + 1)) x442000 x442001 x442002 x442003 x442004) else (bellpulllaw05_CountHas.l0 k x3 x4 1 (wrap64 (x6 + 1)) x442000 x442001 x442002 x442003 x442004))) else (none)) else (bellpulllaw05_CountHas.j2 k x3 x4 x5 x442000 x442001 x442002 x442003 x442004)
end
def bellpulllaw05_CountHas.f (k:Nat) (a0_0:Int) (a0_1:Int) (l0_2:List (S60)) (l0_3:List (S60)) (l0_4:List Int):Option (Bool):=(bellpulllaw05_few.f k l0_2).bind fun t442=>((bellpulllaw05_cut.f l0_4).bind fun t445=>((bellpullref05_Check.f k a0_0 (([t442]:List (List (S60))))).bind fun t451=>(if t451=3 then (bellpulllaw05_CountHas.j0 k t442 t445 t451 false a0_0 a0_1 l0_2 l0_3 l0_4) else (bellpulllaw05_CountHas.j0 k t442 t445 t451 (t451 != 1) a0_0 a0_1 l0_2 l0_3 l0_4))))
theorem bellpulllaw05_CountHas.mono_l:∀ k,(∀ B C D E F G I J L,LeO (bellpulllaw05_CountHas.j0 k B C D E F G I J L) (bellpulllaw05_CountHas.j0 (k + 1) B C D E F G I J L))∧(∀ B C D E F G I J,LeO (bellpulllaw05_CountHas.j2 k B C D E F G I J) (bellpulllaw05_CountHas.j2 (k + 1) B C D E F G I J))∧(∀ B C D E F G I J L,LeO (bellpulllaw05_CountHas.j3 k B C D E F G I J L) (bellpulllaw05_CountHas.j3 (k + 1) B C D E F G I J L))∧(∀ B C D E F G I J,LeO (bellpulllaw05_CountHas.j4 k B C D E F G I J) (bellpulllaw05_CountHas.j4 (k + 1) B C D E F G I J))∧(∀ B C D E F G I J L,LeO (bellpulllaw05_CountHas.j5 k B C D E F G I J L) (bellpulllaw05_CountHas.j5 (k + 1) B C D E F G I J L))∧(∀ B C D E F G I J L,LeO (bellpulllaw05_CountHas.l0 k B C D E F G I J L) (bellpulllaw05_CountHas.l0 (k + 1) B C D E F G I J L))
  | 0=>⟨fun _ _ _ _ _ _ _ _ _ r h=>by simp [bellpulllaw05_CountHas.j0] at h,fun _ _ _ _ _ _ _ _ r h=>by simp [bellpulllaw05_CountHas.j2] at h,fun _ _ _ _ _ _ _ _ _ r h=>by simp [bellpulllaw05_CountHas.j3] at h,fun _ _ _ _ _ _ _ _ r h=>by simp [bellpulllaw05_CountHas.j4] at h,fun _ _ _ _ _ _ _ _ _ r h=>by simp [bellpulllaw05_CountHas.j5] at h,fun _ _ _ _ _ _ _ _ _ r h=>by simp [bellpulllaw05_CountHas.l0] at h⟩
  | k + 1=>by
    obtain ⟨M,N,O,Q,R,T⟩:=bellpulllaw05_CountHas.mono_l k
    refine ⟨?_,?_,?_,?_,?_,?_⟩
    · intro B C D E F G I J L
      unfold bellpulllaw05_CountHas.j0
      with_reducible repeat' first|exact M _ _ _ _ _ _ _ _ _|exact N _ _ _ _ _ _ _ _|exact O _ _ _ _ _ _ _ _ _|exact Q _ _ _ _ _ _ _ _|exact R _ _ _ _ _ _ _ _ _|exact T _ _ _ _ _ _ _ _ _|exact bellpulllaw05_few.mono _ _|exact bellpulllaw05_heavy.mono _ _|exact bellpulllaw05_lives.mono _|exact bellpullref05_Check.mono _ _ _|exact bellpullref05_Has.mono _ _ _|exact count_Has.mono _ _ _ _|exact LeO.refl _|exact LeO.none _|refine LeO.ite ?_ ?_|refine LeO.bind ?_ (fun _=>?_)
    · intro B C D E F G I J
      unfold bellpulllaw05_CountHas.j2
      with_reducible repeat' first|exact M _ _ _ _ _ _ _ _ _|exact N _ _ _ _ _ _ _ _|exact O _ _ _ _ _ _ _ _ _|exact Q _ _ _ _ _ _ _ _|exact R _ _ _ _ _ _ _ _ _|exact T _ _ _ _ _ _ _ _ _|exact bellpulllaw05_few.mono _ _|exact bellpulllaw05_heavy.mono _ _|exact bellpulllaw05_lives.mono _|exact bellpullref05_Check.mono _ _ _|exact bellpullref05_Has.mono _ _ _|exact count_Has.mono _ _ _ _|exact LeO.refl _|exact LeO.none _|refine LeO.ite ?_ ?_|refine LeO.bind ?_ (fun _=>?_)
    · intro B C D E F G I J L
      unfold bellpulllaw05_CountHas.j3
      with_reducible repeat' first|exact M _ _ _ _ _ _ _ _ _|exact N _ _ _ _ _ _ _ _|exact O _ _ _ _ _ _ _ _ _|exact Q _ _ _ _ _ _ _ _|exact R _ _ _ _ _ _ _ _ _|exact T _ _ _ _ _ _ _ _ _|exact bellpulllaw05_few.mono _ _|exact bellpulllaw05_heavy.mono _ _|exact bellpulllaw05_lives.mono _|exact bellpullref05_Check.mono _ _ _|exact bellpullref05_Has.mono _ _ _|exact count_Has.mono _ _ _ _|exact LeO.refl _|exact LeO.none _|refine LeO.ite ?_ ?_|refine LeO.bind ?_ (fun _=>?_)
    · intro B C D E F G I J
      unfold bellpulllaw05_CountHas.j4
      with_reducible repeat' first|exact M _ _ _ _ _ _ _ _ _|exact N _ _ _ _ _ _ _ _|exact O _ _ _ _ _ _ _ _ _|exact Q _ _ _ _ _ _ _ _|exact R _ _ _ _ _ _ _ _ _|exact T _ _ _ _ _ _ _ _ _|exact bellpulllaw05_few.mono _ _|exact bellpulllaw05_heavy.mono _ _|exact bellpulllaw05_lives.mono _|exact bellpullref05_Check.mono _ _ _|exact bellpullref05_Has.mono _ _ _|exact count_Has.mono _ _ _ _|exact LeO.refl _|exact LeO.none _|refine LeO.ite ?_ ?_|refine LeO.bind ?_ (fun _=>?_)
    · intro B C D E F G I J L
      unfold bellpulllaw05_CountHas.j5
      with_reducible repeat' first|exact M _ _ _ _ _ _ _ _ _|exact N _ _ _ _ _ _ _ _|exact O _ _ _ _ _ _ _ _ _|exact Q _ _ _ _ _ _ _ _|exact R _ _ _ _ _ _ _ _ _|exact T _ _ _ _ _ _ _ _ _|exact bellpulllaw05_few.mono _ _|exact bellpulllaw05_heavy.mono _ _|exact bellpulllaw05_lives.mono _|exact bellpullref05_Check.mono _ _ _|exact bellpullref05_Has.mono _ _ _|exact count_Has.mono _ _ _ _|exact LeO.refl _|exact LeO.none _|refine LeO.ite ?_ ?_|refine LeO.bind ?_ (fun _=>?_)
    · intro B C D E F G I J L
      unfold bellpulllaw05_CountHas.l0
      with_reducible repeat' first|exact M _ _ _ _ _ _ _ _ _|exact N _ _ _ _ _ _ _ _|exact O _ _ _ _ _ _ _ _ _|exact Q _ _ _ _ _ _ _ _|exact R _ _ _ _ _ _ _ _ _|exact T _ _ _ _ _ _ _ _ _|exact bellpulllaw05_few.mono _ _|exact bellpulllaw05_heavy.mono _ _|exact bellpulllaw05_lives.mono _|exact bellpullref05_Check.mono _ _ _|exact bellpullref05_Has.mono _ _ _|exact count_Has.mono _ _ _ _|exact LeO.refl _|exact LeO.none _|refine LeO.ite ?_ ?_|refine LeO.bind ?_ (fun _=>?_)
theorem bellpulllaw05_CountHas.mono:∀ a0 a1 a2 a3 a4 k,LeO (bellpulllaw05_CountHas.f k a0 a1 a2 a3 a4) (bellpulllaw05_CountHas.f (k + 1) a0 a1 a2 a3 a4):=by
  intro a0 a1 a2 a3 a4 k
  obtain ⟨ih0,ih1,ih2,ih3,ih4,ih5⟩:=bellpulllaw05_CountHas.mono_l k
  unfold bellpulllaw05_CountHas.f
  with_reducible repeat' first|exact ih0 _ _ _ _ _ _ _ _ _|exact ih1 _ _ _ _ _ _ _ _|exact ih2 _ _ _ _ _ _ _ _ _|exact ih3 _ _ _ _ _ _ _ _|exact ih4 _ _ _ _ _ _ _ _ _|exact ih5 _ _ _ _ _ _ _ _ _|exact bellpulllaw05_few.mono _ _|exact bellpulllaw05_heavy.mono _ _|exact bellpulllaw05_lives.mono _|exact bellpullref05_Check.mono _ _ _|exact bellpullref05_Has.mono _ _ _|exact count_Has.mono _ _ _ _|exact LeO.refl _|exact LeO.none _|refine LeO.ite ?_ ?_|refine LeO.bind ?_ (fun _=>?_)
def bellpulllaw05_CountHas.T1:Bool × List (List Nat × List Nat):=(true,[([],[]),([0],[0]),([1],[1]),([],[]),([3],[3]),([4,2],[4]),([2,5,0,1,2],[2]),([5,6,0,1,2,3,4,5,6],[5])])
def bellpulllaw05_CountHas.B1:List Nat:=[0,1,3,0,8,31,63,127]
theorem bellpulllaw05_CountHas.tab1:rtab .any (opsOf Try.f3 1)=bellpulllaw05_CountHas.T1:=by kernel_rfl
theorem bellpulllaw05_CountHas.bits1:waitsOk bellpulllaw05_CountHas.T1.2 bellpulllaw05_CountHas.B1=true:=by kernel_rfl
set_option maxHeartbeats 8000000 in
set_option maxRecDepth 100000 in
theorem bellpulllaw05_CountHas.calls (k:Nat) (I:Int) (T:Int) (a4:Option Addr) (a5:Nat) (M:List (S60)) (b0:Option Addr) (b1:Nat) (Q:List (S60)) (a6:Option Addr) (a7:Nat) (O:List Int) (r:Bool) (w:World) (h3:Kd.C k60 w a4 M.length M) (h4:M.length ≤ a5) (h5:Kd.C k60 w b0 Q.length Q) (h6:Q.length ≤ b1) (h7:Kd.C (Kd.int .i64) w a6 O.length O) (h8:O.length ≤ a7) (h:bellpulllaw05_CountHas.f k I T M Q O=some r) :
    Calls Try.prog 3 #[.agg #[.int .i64 I,.int .i64 T,.slice a4 M.length a5,.slice b0 Q.length b1,.slice a6 O.length a7]] w fun e w'=>e=.returned (.bool r)∧Below w.heap.size w w':=by
 have t2:=Try.underlying25;have m0:=mk0 h3;have m1:=mk0 h4;clear h3 h4;have t0:=mk0 h5;have t1:=mk0 h6;clear h5 h6;have m2:=mk0 h7;have m3:=mk0 h8;clear h7 h8;have J:=mk0 (Below.refl w.heap.size w);have H:((bellpulllaw05_few.f k M).bind fun E=>((bellpulllaw05_cut.f O).bind fun F=>((bellpullref05_Check.f k I (([E]:List (List (S60))))).bind fun X=>(if X=3 then (bellpulllaw05_CountHas.j0 k E F X false I T M Q O) else (bellpulllaw05_CountHas.j0 k E F X (X != 1) I T M Q O)))))=some r:=h;clear h;replace H:=Option.bind_eq_some_iff.mp H;obtain ⟨E,m7,H⟩:=H;(try dsimp only at H);have A2:=mk0 m7;clear m7;replace H:=Option.bind_eq_some_iff.mp H;obtain ⟨F,m8,H⟩:=H;(try dsimp only at H);have A3:=mk0 m8;clear m8;obtain ⟨g2,d4⟩:∃ y_:List (List (S60)),y_=(([E]:List (List (S60)))):=⟨_,rfl⟩
 replace H:((bellpullref05_Check.f k I g2).bind fun X=>(if X=3 then (bellpulllaw05_CountHas.j0 k E F X false I T M Q O) else (bellpulllaw05_CountHas.j0 k E F X (X != 1) I T M Q O)))=some r:=by first|(rw [d4];with_reducible exact H)|(have i5:=(Option.bind_some _ _).symm.trans H;rw [d4];with_reducible exact i5)|(have i5:=(Option.bind_some _ _).symm.trans H;with_reducible exact i5)|with_reducible exact H|(rw [d4];exact H)|exact H
 have h9:=mk0 d4;clear d4;replace H:=Option.bind_eq_some_iff.mp H;obtain ⟨X,g0,H⟩:=H;(try dsimp only at H);have A4:=mk0 g0;clear g0;have i6:=mk0 H;clear H;go_enter Try.func3,Try.ntmps3;try go_wp2_with (first|((with_reducible refine gate_dst (N:=1) rfl ?_);(try (refine gate_guard (by rfl) ?_;dsimp only));refine box_event ?hg (N:=1) ?hd (cs:=#[.int .i64 I,.int .i64 T,.slice a4 M.length a5,.slice b0 Q.length b1,.slice a6 O.length a7]) (t:=25) ?hr ?_;(case hd=>rfl);(case hg=>rfl);(case hr=>first|(go_simp;done)|(go_simp;rfl));intro L hg w6 i7 hb;have B:=mk0 (i7);have m4:=szw hg J;have Z:=m4;replace J:=bst J hb;clear hb i7 hg))
 replace B:=bdr B;replace J:=hdr J;refine start_ (n:=8) (S:=fun w'=>w'.cell? ⟨L,0,none⟩=some (.int .i64 I)∧w'.cell? ⟨L,1,none⟩=some (.int .i64 T)∧w'.cell? ⟨L,2,none⟩=some (.slice a4 M.length a5)∧w'.cell? ⟨L,3,none⟩=some (.slice b0 Q.length b1)∧w'.cell? ⟨L,4,none⟩=some (.slice a6 O.length a7)) (ds:=[]) #[n_,n_,n_,n_,n_,n_,n_,n_] (by kernel_rfl) rfl rfl ⟨q0_ B,q1_ B,q2_ B,q3_ B,((blk_cell B.1 4).trans rfl)⟩ (fun d5=>?_);refine with_tabW bellpulllaw05_CountHas.tab1 bellpulllaw05_CountHas.bits1 (fun d6 m9=>?_);generalize w6.drew=w7 at B J d5 ⊢;refine pure_ (i:=0) (N:=some 9) (v:=?_) (a':=?_) #[y_,n_,n_,n_,n_,n_,n_,n_] rfl rfl (any_of d6.1 (by kernel_rfl)) (fun _ _ _ h=>h) (Or.inl ⟨by rfl,?_⟩) ?_ ?_;rotate_left
 ·
  intro w';go_simp;with_reducible rfl
 rotate_left
 ·
  simp only [Act.put,s0_,s1_,s2_,i64_w,i32_w];rfl
 refine pure_ (i:=3) (N:=some 12) (v:=?_) (a':=?_) #[y_,n_,n_,y_,n_,n_,n_,n_] rfl rfl (any_of d6.1 (by kernel_rfl)) (fun _ _ _ h=>h) (Or.inl ⟨by rfl,?_⟩) ?_ ?_;rotate_left
 ·
  intro w';go_simp;with_reducible rfl
 rotate_left
 ·
  simp only [Act.put,s0_,s1_,s2_,i64_w,i32_w];rfl
 refine take_ (i:=1) (N:=some 10) (v:=?_) (a':=?_) #[y_,y_,n_,y_,n_,n_,n_,n_] rfl rfl (take_ofW d6.1 m9.1 (by kernel_rfl)) (fun _ _ _ h=>h) (Or.inl ⟨by rfl,?_⟩) d5 ?_ ?_;rotate_left
 ·
  rintro w' ⟨s0,s1,s2,s3,s4⟩;go_simp;with_reducible rfl
 rotate_left
 ·
  simp only [Act.put,s0_,s1_,s2_,i64_w,i32_w];rfl
 refine take_ (i:=4) (N:=some 13) (v:=?_) (a':=?_) #[y_,y_,n_,y_,y_,n_,n_,n_] rfl rfl (take_ofW d6.1 m9.1 (by kernel_rfl)) (fun _ _ _ h=>h) (Or.inl ⟨by rfl,?_⟩) d5 ?_ ?_;rotate_left
 ·
  rintro w' ⟨s0,s1,s2,s3,s4⟩;go_simp;with_reducible rfl
 rotate_left
 ·
  simp only [Act.put,s0_,s1_,s2_,i64_w,i32_w];rfl
 refine one_ (i:=2) (N:=some 11) #[y_,y_,y_,y_,y_,n_,n_,n_] rfl rfl (one_of d6.1 (by kernel_rfl)) (by decide) (fun K hK=>?_);refine goes_ Try.func17 (by kernel_rfl) rfl #[.slice a4 M.length a5] (by rfl) rfl rfl (by (try simp only [m0_,m1_,m2_]);first|done|rfl|(simp only [l0_,l1_];rfl)) ?_;with_reducible refine (bellpulllaw05_few.calls k _ _ M E _ ?side1 ?side2 A2.1).mono ?_
 (case side1=>repeat (first|exact (Kd.C_below m0.1 J.1)|(with_reducible refine Kd.C_alloc ?_ _)|(with_reducible refine Kd.C_drewN ?_ _)|(with_reducible refine Kd.C_drew ?_)));(case side2=>exact m1.1);rintro e w8 ⟨u2,rfl,f7,hb⟩;refine ⟨_,rfl,?_⟩;have a2:=mk0 (Kd.N_lower (Kd.N_mono (ok':=fun k_=>k_ ≠ L) (Kd.R_N (Kd.R_bound f7)) (fun k_ hk_=>(Kd.freshB (g:=L) (o:=.cells #[.int .i64 I,.int .i64 T,.slice a4 M.length a5,.slice b0 Q.length b1,.slice a6 O.length a7] 25 (0,0)) B.1 k_ hk_.2.1))) (below_size J.1));replace B:=bkb B hb;replace J:=bst J hb;(try clear hb);(try clear f7);refine hK.out _ _ ⟨q0_ B,q1_ B,q2_ B,q3_ B,((blk_cell B.1 4).trans rfl)⟩ (fun d5=>?_);clear hK K;refine norm_ (a':=?_) ?_ ?_;rotate_left
 ·
  show Act.put _ (some 11) _=_;simp only [Act.put,s0_,s1_,s2_,i64_w,i32_w];rfl
 refine one_ (i:=5) (N:=some 14) #[y_,y_,y_,y_,y_,y_,n_,n_] rfl rfl (one_of d6.1 (by kernel_rfl)) (by decide) (fun K hK=>?_);refine goes_ Try.func18 (by kernel_rfl) rfl #[.slice a6 O.length a7] (by rfl) rfl rfl (by (try simp only [m0_,m1_,m2_]);first|done|rfl|(simp only [l0_,l1_];rfl)) ?_;with_reducible refine (bellpulllaw05_cut.calls _ _ O F _ ?side1 ?side2 A3.1).mono ?_
 (case side1=>repeat (first|exact (Kd.C_below m2.1 J.1)|(with_reducible refine Kd.C_alloc ?_ _)|(with_reducible refine Kd.C_drewN ?_ _)|(with_reducible refine Kd.C_drew ?_)));(case side2=>exact m3.1);rintro e w9 ⟨a0,rfl,f7,hb⟩;refine ⟨_,rfl,?_⟩;have c8:=mk0 (Kd.R_lower f7 (below_size J.1));replace a2:=mk0 (Kd.N_elder' a2.1 (Kd.R_base f7) hb);replace B:=bkb B hb;replace J:=bst J hb;(try clear hb);(try clear f7);refine hK.out _ _ ⟨q0_ B,q1_ B,q2_ B,q3_ B,((blk_cell B.1 4).trans rfl)⟩ (fun d5=>?_);clear hK K;refine norm_ (a':=?_) ?_ ?_;rotate_left
 ·
  show Act.put _ (some 14) _=_;simp only [Act.put,s0_,s1_,s2_,i64_w,i32_w];rfl
 refine pure_ (i:=6) (N:=some 3) (v:=?_) (a':=?_) #[y_,y_,y_,y_,y_,y_,y_,n_] rfl rfl (any_of d6.1 (by kernel_rfl)) (fun _ _ _ h=>h) (Or.inl ⟨by rfl,?_⟩) ?_ ?_;rotate_left
 ·
  intro w';go_simp;with_reducible rfl
 rotate_left
 ·
  simp only [Act.put,s0_,s1_,s2_,i64_w,i32_w];rfl
 refine pure_ (i:=7) (N:=some 4) (v:=?_) (a':=?_) #[y_,y_,y_,y_,y_,y_,y_,y_] rfl rfl (any_of d6.1 (by kernel_rfl)) (fun _ _ _ h=>h) (Or.inl ⟨by rfl,?_⟩) ?_ ?_;rotate_left
 ·
  intro w';go_simp;with_reducible rfl
 rotate_left
 ·
  simp only [Act.put,s0_,s1_,s2_,i64_w,i32_w];rfl
 refine done_ (done_of d6.1 (by kernel_rfl)) ?_;have b2:=q0_ B;have b3:=q1_ B;have b4:=q2_ B;have b5:=q3_ B;have b6:=((blk_cell B.1 4).trans rfl);have b7:=blk_frozen B.1 0;have b8:=blk_frozen B.1 1;have b9:=blk_frozen B.1 2;have c0:=blk_frozen B.1 3;have c4:=blk_frozen B.1 4;obtain ⟨a8,a9,n1⟩:=Kd.N_slice a2.1;subst n1;go_upto_region 3 with (first|((with_reducible refine gate_dst (N:=18) rfl ?_);(try (refine gate_guard (by rfl) ?_;dsimp only));refine Kd.N_lit (Kd.slice 60 k60) _ 22 ?hg (N':=18) ?hd (xs:=([E]:List (List (S60)))) (inner:=[.slice a8 E.length a9]) (ok:=(fun k_=>some k_ ≠ (a0:Value).ownBlock∧k_ ≠ L)) (okp:=(fun k_=>some k_ ≠ (a0:Value).ownBlock∧k_ ≠ L)) ?hr ?hp (fun _ hk=>hk) ((show ∀ k_,w9.heap.size ≤ k_ → (fun k_=>some k_ ≠ (a0:Value).ownBlock∧k_ ≠ L) k_ from fun k_ hk=>⟨Kd.fresh' (Kd.R_lt c8.1) k_ hk,Kd.freshB (g:=L) (o:=.cells #[.int .i64 I,.int .i64 T,.slice a4 M.length a5,.slice b0 Q.length b1,.slice a6 O.length a7] 25 (0,0)) B.1 k_ hk⟩) _ (Nat.le_refl _)) (Below.refl _ _) (Nat.le_refl _) (by simp) ?_;(case hd=>rfl);(case hg=>rfl);(case hr=>first|(go_simp;done)|(go_simp;rfl));(case hp=>exact (Reps.one (show Kd.FK (Kd.slice 60 k60) _ _ E [.slice a8 E.length a9] from (Kd.FK_slice_mk (Kd.N_reads' (Kd.N_mono (ok':=(fun k_=>some k_ ≠ (a0:Value).ownBlock∧k_ ≠ L)) (a2.1) (fun k_ hk=>⟨hk.2,hk.1⟩))).2.1 (Kd.N_F (Kd.N_mono (ok':=(fun k_=>some k_ ≠ (a0:Value).ownBlock∧k_ ≠ L)) (a2.1) (fun k_ hk=>⟨hk.2,hk.1⟩))))) (Reps.none _ _)));intro u4 v7 d0 hb hg_ m5;clear hg_ m5;(first|rw [← h9.1] at d0|(simp only [Int.reduceToNat] at d0;rw [← h9.1] at d0));have d7:=mk0 (Kd.N_lower d0 (below_size J.1));replace a2:=mk0 (Kd.N_elder' a2.1 (by first|exact Kd.N_base d0|exact Kd.S_base d0|exact Kd.R_base d0) hb);replace c8:=rbl c8 hb;replace B:=bkb B hb;replace J:=bst J hb;clear hb d0;obtain ⟨n2,n3,n4⟩:=Kd.N_slice d7.1;subst n4)|((with_reducible refine gate_callee (f:=19) rfl ?_);refine goesL_ (some 19) rfl rfl Try.func19 (by kernel_rfl) rfl #[.int .i64 I,.slice n2 g2.length n3] rfl (by (try simp only [m0_,m1_,m2_]);first|done|rfl|(simp only [l0_,l1_];rfl)) ?_;(with_reducible refine (bellpullref05_Check.calls k I _ _ g2 X _ ?side1 ?side2 A4.1).mono ?_);(case side1=>repeat (first|exact (Kd.N_reads' d7.1).2.2|(with_reducible refine Kd.C_alloc ?_ _)|(with_reducible refine Kd.C_drewN ?_ _)|(with_reducible refine Kd.C_drew ?_)));(case side2=>exact (Kd.N_reads' d7.1).2.1);rintro e v8 ⟨rfl,hb⟩;refine ⟨_,rfl,?_⟩;replace a2:=mk0 (Kd.N_below a2.1 hb);replace c8:=rbl c8 hb;replace d7:=mk0 (Kd.N_below d7.1 hb);replace B:=bkb B hb;replace J:=bst J hb;(try clear hb);(try clear hk)));(try simp only [Act.put,s0_,s1_,s2_])
 go_cut [25] (fun r7 wc=>∃ (kq:Nat) (f5:Bool),r7=.bool f5∧Aside0 (bellpulllaw05_CountHas.j0 kq E F X f5 I T M Q O=some r)∧Aside0 (kq ≤ k)∧Aside0 (Kd.N k60 60 wc w.heap.size (fun k_=>some k_ ≠ (a0:Value).ownBlock∧k_ ≠ L) (.slice a8 E.length a9) E)∧Aside0 (Kd.R (Kd.int .i64) 3 wc w.heap.size (fun _=>True) a0 F)∧Aside0 (wc.heap[L]?=some (.cells #[.int .i64 I,.int .i64 T,(.slice a4 M.length a5),(.slice b0 Q.length b1),(.slice a6 O.length a7)] 25 (0,0)))∧Aside0 (Below w.heap.size w wc))
 case first =>
  have H:=i6.1;clear i6
  by_cases c16:X=3
  ·
   rw [if_pos c16] at H;have c16b0:(X == 3)=true:=beq_iff_eq.mpr c16;have c16b1:(X != 3)=false:=bne_eq_false_iff_eq.mpr c16;clear c16;(first|rw [c16b0]|(simp only [i64_w,i32_w];rw [c16b0])|skip);have H':=mk0 H;clear H;go_wp2;go_meet
   case rel=>exact ⟨_,(false),(by first|rfl|(simp;done)|(simp [*];done)),H',⟨by first|omega|exact Nat.le_refl _⟩,⟨by exact Kd.N_mono a2.1 (fun _ hk=>⟨hk.1.2,hk.1.1⟩)⟩,⟨by exact c8.1⟩,⟨by exact B.1⟩,⟨by repeat (first|(with_reducible first|exact J.1|apply below_alloc|apply pw_below_drewN|apply below_drew1|refine below_set ?_ Z.1)|exact J.1)⟩⟩
  ·
   rw [if_neg c16] at H;have c16b0:(X == 3)=false:=beq_eq_false_iff_ne.mpr c16;have c16b1:(X != 3)=true:=bne_iff_ne.mpr c16;(first|rw [c16b0]|(simp only [i64_w,i32_w];rw [c16b0])|skip);have H':=mk0 H;clear H;go_wp2;go_meet
   case rel=>exact ⟨_,((X != 1)),(by first|rfl|(simp;done)|(simp [*];done)),H',⟨by first|omega|exact Nat.le_refl _⟩,⟨by exact Kd.N_mono a2.1 (fun _ hk=>⟨hk.1.2,hk.1.1⟩)⟩,⟨by exact c8.1⟩,⟨by exact B.1⟩,⟨by repeat (first|(with_reducible first|exact J.1|apply below_alloc|apply pw_below_drewN|apply below_drew1|refine below_set ?_ Z.1)|exact J.1)⟩⟩
 case rest =>
  clear i6;try clear c1
  try clear p2
  try clear c3
  try clear c16
  try clear c16b0
  try clear c16b1
  try clear b2
  try clear b3
  try clear b4
  try clear b5
  try clear b6
  try clear b7
  try clear b8
  try clear b9
  try clear c0
  try clear c4
  obtain ⟨kq,f5,rfl,HA,c9,G,D,B,J⟩:=hcut;cases kq with
  | zero=>exact absurd HA.1 (by simp [bellpulllaw05_CountHas.j0])
  | succ kj4 =>
   have H:=HA.1;clear HA;simp only [bellpulllaw05_CountHas.j0] at H;have g3:=mk0 H;clear H;go_upto_if 25 with (fail)
   go_cut [5] (fun v5 wc=>∃ (kq:Nat) (a3:Int),v5=.int .i64 a3∧Aside0 (bellpulllaw05_CountHas.j2 kq E F a3 I T M Q O=some r)∧Aside0 (kq ≤ kj4)∧Aside0 (Kd.N k60 60 wc w.heap.size (fun k_=>some k_ ≠ (a0:Value).ownBlock∧k_ ≠ L) (.slice a8 E.length a9) E)∧Aside0 (Kd.R (Kd.int .i64) 3 wc w.heap.size (fun _=>True) a0 F)∧Aside0 (wc.heap[L]?=some (.cells #[.int .i64 I,.int .i64 T,(.slice a4 M.length a5),(.slice b0 Q.length b1),(.slice a6 O.length a7)] 25 (0,0)))∧Aside0 (Below w.heap.size w wc))
   case first =>
    have H:=g3.1;clear g3
    by_cases d8:f5=true
    ·
     subst d8;have V:(bellpulllaw05_CountHas.l0 kj4 E F X 0 I T M Q O)=some r:=by rw [if_pos rfl] at H;exact H
     clear H;have H:=V;clear V;have H':=mk0 H;clear H;go_wp2
     go_loopg [5,6] kj4 (fun kq v5 v6 w'=>∃ (e2:Int) (Y:Int),v5=.int .i64 e2∧v6=.int .i64 Y∧Aside0 (bellpulllaw05_CountHas.l0 kq E F e2 Y I T M Q O=some r)∧Aside0 (kq ≤ kj4)∧Aside0 (Kd.N k60 60 w' w.heap.size (fun k_=>some k_ ≠ (a0:Value).ownBlock∧k_ ≠ L) (.slice a8 E.length a9) E)∧Aside0 (Kd.R (Kd.int .i64) 3 w' w.heap.size (fun _=>True) a0 F)∧Aside0 (w'.heap[L]?=some (.cells #[.int .i64 I,.int .i64 T,(.slice a4 M.length a5),(.slice b0 Q.length b1),(.slice a6 O.length a7)] 25 (0,0)))∧Aside0 (Below w.heap.size w w'))
     case atStart=>exact ⟨(X),(0),(by first|rfl|(simp;done)|(simp [*];done)),(by first|rfl|(simp;done)|(simp [*];done)),H',⟨Nat.le_refl _⟩,⟨by exact G.1⟩,⟨by exact D.1⟩,⟨by exact B.1⟩,⟨by repeat (first|(with_reducible first|exact J.1|apply below_alloc|apply pw_below_drewN|apply below_drew1|refine below_set ?_ Z.1)|exact J.1)⟩⟩
     case round =>
      clear H';try clear c1
      try clear p2
      try clear c3
      try clear c16
      try clear c16b0
      try clear c16b1
      try clear c17
      try clear d8
      try clear b2
      try clear b3
      try clear b4
      try clear b5
      try clear b6
      try clear b7
      try clear b8
      try clear b9
      try clear c0
      try clear c4
      try clear p2
      obtain ⟨e2,Y,rfl,rfl,HA,g1,G,D,B,J⟩:=hrel;cases gk with
      | zero=>exact absurd HA.1 (by simp [bellpulllaw05_CountHas.l0])
      | succ k2 =>
       have H:=HA.1;clear HA;simp only [bellpulllaw05_CountHas.l0] at H
       by_cases c19:Y < (F.length:Int)
       ·
        rw [if_pos c19] at H;have c19b0:decide (Y < (F.length:Int))=true:=decide_eq_true c19;clear c19;(first|rw [c19b0]|(simp only [i64_w,i32_w];rw [c19b0])|skip)
        by_cases c20:0 ≤ Y
        ·
         rw [if_pos c20] at H;have c20b0:decide (0 ≤ Y)=true:=decide_eq_true c20;clear c20;replace H:=Option.bind_eq_some_iff.mp H;obtain ⟨n5,j1,H⟩:=H;(try dsimp only at H);have n0:=mk0 j1;clear j1
         by_cases f4:n5=true
         ·
          subst f4;have V:(bellpulllaw05_CountHas.l0 k2 E F e2 (wrap64 (Y + 1)) I T M Q O)=some r:=by rw [if_pos rfl] at H;exact H
          clear H;have H:=V;clear V;have H':=mk0 H;clear H;obtain ⟨u6,u7,n6⟩:=Kd.R_slice D.1;subst n6;have c5:0 ≤ (Y:Int):=of_decide_eq_true (by assumption);have c6:Y < (F.length:Int):=of_decide_eq_true (by assumption);obtain ⟨m6,g4,c7⟩:=Kd.at_int (Kd.R_reads' D.1).2.2 Y c5 c6;cases g4;replace c5:=eq_true c5;replace c6:=eq_true c6;go_wp2_with (first|((with_reducible refine gate_callee (f:=20) rfl ?_);refine goesL_ (some 36) rfl rfl Try.func20 (by kernel_rfl) rfl #[.int .i64 (rd F Y),.int .i64 0,.int .i64 60] rfl (by (try simp only [m0_,m1_,m2_]);first|done|rfl|(simp only [l0_,l1_];rfl)) ?_;(with_reducible refine (bellpullref01_In.calls (rd F Y) 0 60 true _ n0.1).mono ?_);rintro e w' ⟨rfl,⟨nd,rfl⟩⟩;refine ⟨_,rfl,?_⟩));go_roundg k2
          case measure=>have:=c9.1;have:=g1.1;omega
          case rel=>exact ⟨(e2),(wrap64 (Y + 1)),(by first|rfl|(simp;done)|(simp [*];done)),(by first|rfl|(simp;done)|(simp [*];done)),H',⟨by have:=c9.1;have:=g1.1;omega⟩,⟨by exact G.1⟩,⟨by exact D.1⟩,⟨by exact B.1⟩,⟨by repeat (first|(with_reducible first|exact J.1|apply below_alloc|apply pw_below_drewN|apply below_drew1|refine below_set ?_ Z.1)|exact J.1)⟩⟩
         ·
          replace f4:=Bool.eq_false_iff.mpr f4;subst f4;have V:(bellpulllaw05_CountHas.l0 k2 E F 1 (wrap64 (Y + 1)) I T M Q O)=some r:=by rw [if_neg (show ¬ (false=true) by decide)] at H;exact H
          clear H;have H:=V;clear V;have H':=mk0 H;clear H;obtain ⟨u8,u9,n7⟩:=Kd.R_slice D.1;subst n7;have c5:0 ≤ (Y:Int):=of_decide_eq_true (by assumption);have c6:Y < (F.length:Int):=of_decide_eq_true (by assumption);obtain ⟨m6,g4,c7⟩:=Kd.at_int (Kd.R_reads' D.1).2.2 Y c5 c6;cases g4;replace c5:=eq_true c5;replace c6:=eq_true c6;go_wp2_with (first|((with_reducible refine gate_callee (f:=20) rfl ?_);refine goesL_ (some 36) rfl rfl Try.func20 (by kernel_rfl) rfl #[.int .i64 (rd F Y),.int .i64 0,.int .i64 60] rfl (by (try simp only [m0_,m1_,m2_]);first|done|rfl|(simp only [l0_,l1_];rfl)) ?_;(with_reducible refine (bellpullref01_In.calls (rd F Y) 0 60 false _ n0.1).mono ?_);rintro e w' ⟨rfl,⟨nd,rfl⟩⟩;refine ⟨_,rfl,?_⟩));go_roundg k2
          case measure=>have:=c9.1;have:=g1.1;omega
          case rel=>exact ⟨(1),(wrap64 (Y + 1)),(by first|rfl|(simp;done)|(simp [*];done)),(by first|rfl|(simp;done)|(simp [*];done)),H',⟨by have:=c9.1;have:=g1.1;omega⟩,⟨by exact G.1⟩,⟨by exact D.1⟩,⟨by exact B.1⟩,⟨by repeat (first|(with_reducible first|exact J.1|apply below_alloc|apply pw_below_drewN|apply below_drew1|refine below_set ?_ Z.1)|exact J.1)⟩⟩
        ·
         rw [if_neg c20] at H;exact absurd H (by simp)
       ·
        rw [if_neg c19] at H;have c19b0:decide (Y < (F.length:Int))=false:=decide_eq_false c19;clear c19;(first|rw [c19b0]|(simp only [i64_w,i32_w];rw [c19b0])|skip);have H':=mk0 H;clear H;obtain ⟨v0,v1,n8⟩:=Kd.R_slice D.1;subst n8;go_wp2;go_meet
        case rel=>exact ⟨_,(e2),(by first|rfl|(simp;done)|(simp [*];done)),H',⟨by have:=c9.1;have:=g1.1;first|omega|exact Nat.le_refl _⟩,⟨by exact G.1⟩,⟨by exact D.1⟩,⟨by exact B.1⟩,⟨by repeat (first|(with_reducible first|exact J.1|apply below_alloc|apply pw_below_drewN|apply below_drew1|refine below_set ?_ Z.1)|exact J.1)⟩⟩
    ·
     replace d8:=Bool.eq_false_iff.mpr d8;subst d8;have V:(bellpulllaw05_CountHas.j2 kj4 E F X I T M Q O)=some r:=by rw [if_neg (show ¬ (false=true) by decide)] at H;exact H
     clear H;have H:=V;clear V;have H':=mk0 H;clear H;go_wp2;go_meet
     case rel=>exact ⟨_,(X),(by first|rfl|(simp;done)|(simp [*];done)),H',⟨by have:=c9.1;first|omega|exact Nat.le_refl _⟩,⟨by exact G.1⟩,⟨by exact D.1⟩,⟨by exact B.1⟩,⟨by repeat (first|(with_reducible first|exact J.1|apply below_alloc|apply pw_below_drewN|apply below_drew1|refine below_set ?_ Z.1)|exact J.1)⟩⟩
   case rest =>
    clear g3;try clear c1
    try clear c2
    try clear p2
    try clear c3
    try clear p4
    try clear q4
    try clear hx4
    try clear p6
    try clear c16
    try clear c16b0
    try clear c16b1
    try clear c17
    try clear d8
    try clear c19
    try clear c19b0
    try clear c20
    try clear c20b0
    try clear f4
    try clear b2
    try clear b3
    try clear b4
    try clear b5
    try clear b6
    try clear b7
    try clear b8
    try clear b9
    try clear c0
    try clear c4
    try clear c7
    try clear p2
    try clear c5
    try clear c6
    obtain ⟨kq,a3,rfl,HA,e3,G,D,B,J⟩:=hcut;cases kq with
    | zero=>exact absurd HA.1 (by simp [bellpulllaw05_CountHas.j2])
    | succ kj16 =>
     have H:=HA.1;clear HA;simp only [bellpulllaw05_CountHas.j2] at H;have g5:=mk0 H;clear H;go_upto_region 9 with (fail)
     go_cut [46] (fun r8 wc=>∃ (kq:Nat) (d9:Bool),r8=.bool d9∧Aside0 (bellpulllaw05_CountHas.j3 kq E F a3 d9 I T M Q O=some r)∧Aside0 (kq ≤ kj16)∧Aside0 (Kd.N k60 60 wc w.heap.size (fun k_=>some k_ ≠ (a0:Value).ownBlock∧k_ ≠ L) (.slice a8 E.length a9) E)∧Aside0 (Kd.R (Kd.int .i64) 3 wc w.heap.size (fun _=>True) a0 F)∧Aside0 (wc.heap[L]?=some (.cells #[.int .i64 I,.int .i64 T,(.slice a4 M.length a5),(.slice b0 Q.length b1),(.slice a6 O.length a7)] 25 (0,0)))∧Aside0 (Below w.heap.size w wc))
     case first =>
      have H:=g5.1;clear g5
      by_cases c27:a3=0
      ·
       rw [if_pos c27] at H;have c27b0:(a3 == 0)=true:=beq_iff_eq.mpr c27;have c27b1:(a3 != 0)=false:=bne_eq_false_iff_eq.mpr c27;clear c27;(first|rw [c27b0]|(simp only [i64_w,i32_w];rw [c27b0])|skip);have H':=mk0 H;clear H;obtain ⟨v2,v3,n9⟩:=Kd.R_slice D.1;subst n9;have e4:=q0_ B;have e5:=q1_ B;have e6:=q2_ B;have e7:=q3_ B;have e8:=((blk_cell B.1 4).trans rfl);have e9:=blk_frozen B.1 0;have f0:=blk_frozen B.1 1;have f1:=blk_frozen B.1 2;have f2:=blk_frozen B.1 3;have f3:=blk_frozen B.1 4;go_wp2;go_meet
       case rel=>exact ⟨_,(((F.length:Int) != I)),(by first|rfl|(simp;done)|(simp [*];done)),H',⟨by have:=c9.1;have:=e3.1;first|omega|exact Nat.le_refl _⟩,⟨by exact G.1⟩,⟨by exact D.1⟩,⟨by exact B.1⟩,⟨by repeat (first|(with_reducible first|exact J.1|apply below_alloc|apply pw_below_drewN|apply below_drew1|refine below_set ?_ Z.1)|exact J.1)⟩⟩
      ·
       rw [if_neg c27] at H;have c27b0:(a3 == 0)=false:=beq_eq_false_iff_ne.mpr c27;have c27b1:(a3 != 0)=true:=bne_iff_ne.mpr c27;(first|rw [c27b0]|(simp only [i64_w,i32_w];rw [c27b0])|skip);have H':=mk0 H;clear H;go_wp2;go_meet
       case rel=>exact ⟨_,(false),(by first|rfl|(simp;done)|(simp [*];done)),H',⟨by have:=c9.1;have:=e3.1;first|omega|exact Nat.le_refl _⟩,⟨by exact G.1⟩,⟨by exact D.1⟩,⟨by exact B.1⟩,⟨by repeat (first|(with_reducible first|exact J.1|apply below_alloc|apply pw_below_drewN|apply below_drew1|refine below_set ?_ Z.1)|exact J.1)⟩⟩
     case rest =>
      clear g5;try clear c1
      try clear c2
      try clear p2
      try clear c3
      try clear p4
      try clear q4
      try clear hx4
      try clear p6
      try clear c16
      try clear c16b0
      try clear c16b1
      try clear c17
      try clear d8
      try clear c19
      try clear c19b0
      try clear c20
      try clear c20b0
      try clear f4
      try clear c27
      try clear c27b0
      try clear c27b1
      try clear b2
      try clear b3
      try clear b4
      try clear b5
      try clear b6
      try clear e4
      try clear e5
      try clear e6
      try clear e7
      try clear e8
      try clear b7
      try clear b8
      try clear b9
      try clear c0
      try clear c4
      try clear e9
      try clear f0
      try clear f1
      try clear f2
      try clear f3
      try clear c7
      try clear p2
      try clear p4
      try clear c5
      try clear p6
      try clear q4
      try clear c6
      obtain ⟨kq,d9,rfl,HA,f9,G,D,B,J⟩:=hcut;cases kq with
      | zero=>exact absurd HA.1 (by simp [bellpulllaw05_CountHas.j3])
      | succ kj25 =>
       have H:=HA.1;clear HA;simp only [bellpulllaw05_CountHas.j3] at H;have g6:=mk0 H;clear H;go_upto_if 46 with (fail)
       go_cut [5] (fun v5 wc=>∃ (kq:Nat) (U:Int),v5=.int .i64 U∧Aside0 (bellpulllaw05_CountHas.j4 kq E F U I T M Q O=some r)∧Aside0 (kq ≤ kj25)∧Aside0 (Kd.N k60 60 wc w.heap.size (fun k_=>some k_ ≠ (a0:Value).ownBlock∧k_ ≠ L) (.slice a8 E.length a9) E)∧Aside0 (Kd.R (Kd.int .i64) 3 wc w.heap.size (fun _=>True) a0 F)∧Aside0 (wc.heap[L]?=some (.cells #[.int .i64 I,.int .i64 T,(.slice a4 M.length a5),(.slice b0 Q.length b1),(.slice a6 O.length a7)] 25 (0,0)))∧Aside0 (Below w.heap.size w wc))
       case first =>
        have H:=g6.1;clear g6
        by_cases f8:d9=true
        ·
         subst f8;have V:(bellpulllaw05_CountHas.j4 kj25 E F 2 I T M Q O)=some r:=by rw [if_pos rfl] at H;exact H
         clear H;have H:=V;clear V;have H':=mk0 H;clear H;go_wp2;go_meet
         case rel=>exact ⟨_,(2),(by first|rfl|(simp;done)|(simp [*];done)),H',⟨by have:=c9.1;have:=e3.1;have:=f9.1;first|omega|exact Nat.le_refl _⟩,⟨by exact G.1⟩,⟨by exact D.1⟩,⟨by exact B.1⟩,⟨by repeat (first|(with_reducible first|exact J.1|apply below_alloc|apply pw_below_drewN|apply below_drew1|refine below_set ?_ Z.1)|exact J.1)⟩⟩
        ·
         replace f8:=Bool.eq_false_iff.mpr f8;subst f8;have V:(bellpulllaw05_CountHas.j4 kj25 E F a3 I T M Q O)=some r:=by rw [if_neg (show ¬ (false=true) by decide)] at H;exact H
         clear H;have H:=V;clear V;have H':=mk0 H;clear H;go_wp2;go_meet
         case rel=>exact ⟨_,(a3),(by first|rfl|(simp;done)|(simp [*];done)),H',⟨by have:=c9.1;have:=e3.1;have:=f9.1;first|omega|exact Nat.le_refl _⟩,⟨by exact G.1⟩,⟨by exact D.1⟩,⟨by exact B.1⟩,⟨by repeat (first|(with_reducible first|exact J.1|apply below_alloc|apply pw_below_drewN|apply below_drew1|refine below_set ?_ Z.1)|exact J.1)⟩⟩
       case rest =>
        clear g6;try clear c1
        try clear c2
        try clear p2
        try clear c3
        try clear p4
        try clear q4
        try clear hx4
        try clear p6
        try clear c16
        try clear c16b0
        try clear c16b1
        try clear c17
        try clear d8
        try clear c19
        try clear c19b0
        try clear c20
        try clear c20b0
        try clear f4
        try clear c27
        try clear c27b0
        try clear c27b1
        try clear f8
        try clear b2
        try clear b3
        try clear b4
        try clear b5
        try clear b6
        try clear e4
        try clear e5
        try clear e6
        try clear e7
        try clear e8
        try clear b7
        try clear b8
        try clear b9
        try clear c0
        try clear c4
        try clear e9
        try clear f0
        try clear f1
        try clear f2
        try clear f3
        try clear c7
        try clear p2
        try clear p4
        try clear c5
        try clear p6
        try clear q4
        try clear c6
        obtain ⟨kq,U,rfl,HA,j6,G,D,B,J⟩:=hcut;cases kq with
        | zero=>exact absurd HA.1 (by simp [bellpulllaw05_CountHas.j4])
        | succ kj29 =>
         have H:=HA.1;clear HA;simp only [bellpulllaw05_CountHas.j4] at H;have g7:=mk0 H;clear H;go_upto_region 11 with (fail)
         go_cut [52] (fun r9 wc=>∃ (kq:Nat) (e0:Bool),r9=.bool e0∧Aside0 (bellpulllaw05_CountHas.j5 kq E F U e0 I T M Q O=some r)∧Aside0 (kq ≤ kj29)∧Aside0 (Kd.N k60 60 wc w.heap.size (fun k_=>some k_ ≠ (a0:Value).ownBlock∧k_ ≠ L) (.slice a8 E.length a9) E)∧Aside0 (Kd.R (Kd.int .i64) 3 wc w.heap.size (fun _=>True) a0 F)∧Aside0 (wc.heap[L]?=some (.cells #[.int .i64 I,.int .i64 T,(.slice a4 M.length a5),(.slice b0 Q.length b1),(.slice a6 O.length a7)] 25 (0,0)))∧Aside0 (Below w.heap.size w wc))
         case first =>
          have H:=g7.1;clear g7
          by_cases c33:U=0
          ·
           rw [if_pos c33] at H;have c33b0:(U == 0)=true:=beq_iff_eq.mpr c33;have c33b1:(U != 0)=false:=bne_eq_false_iff_eq.mpr c33;clear c33;(first|rw [c33b0]|(simp only [i64_w,i32_w];rw [c33b0])|skip);replace H:=Option.bind_eq_some_iff.mp H;obtain ⟨j7,j8,H⟩:=H;(try dsimp only at H);have s5:=mk0 j8;clear j8;have H':=mk0 H;clear H;go_wp2_with (first|(go_at_call 21;(with_reducible refine (bellpulllaw05_heavy.calls kj29 _ _ E j7 _ ?side1 ?side2 s5.1).mono ?_);(case side1=>repeat (first|exact (Kd.N_reads' G.1).2.2|(with_reducible refine Kd.C_alloc ?_ _)|(with_reducible refine Kd.C_drewN ?_ _)|(with_reducible refine Kd.C_drew ?_)));(case side2=>exact (Kd.N_reads' G.1).2.1);rintro e w' ⟨rfl,⟨nd,rfl⟩⟩));go_meet
           case rel=>exact ⟨_,(j7),(by first|rfl|(simp;done)|(simp [*];done)),H',⟨by have:=c9.1;have:=e3.1;have:=f9.1;have:=j6.1;first|omega|exact Nat.le_refl _⟩,⟨by exact G.1⟩,⟨by exact D.1⟩,⟨by exact B.1⟩,⟨by repeat (first|(with_reducible first|exact J.1|apply below_alloc|apply pw_below_drewN|apply below_drew1|refine below_set ?_ Z.1)|exact J.1)⟩⟩
          ·
           rw [if_neg c33] at H;have c33b0:(U == 0)=false:=beq_eq_false_iff_ne.mpr c33;have c33b1:(U != 0)=true:=bne_iff_ne.mpr c33;(first|rw [c33b0]|(simp only [i64_w,i32_w];rw [c33b0])|skip);have H':=mk0 H;clear H;go_wp2;go_meet
           case rel=>exact ⟨_,(false),(by first|rfl|(simp;done)|(simp [*];done)),H',⟨by have:=c9.1;have:=e3.1;have:=f9.1;have:=j6.1;first|omega|exact Nat.le_refl _⟩,⟨by exact G.1⟩,⟨by exact D.1⟩,⟨by exact B.1⟩,⟨by repeat (first|(with_reducible first|exact J.1|apply below_alloc|apply pw_below_drewN|apply below_drew1|refine below_set ?_ Z.1)|exact J.1)⟩⟩
         case rest =>
          clear g7;try clear c1
          try clear c2
          try clear p2
          try clear c3
          try clear p4
          try clear q4
          try clear hx4
          try clear p6
          try clear c16
          try clear c16b0
          try clear c16b1
          try clear c17
          try clear d8
          try clear c19
          try clear c19b0
          try clear c20
          try clear c20b0
          try clear f4
          try clear c27
          try clear c27b0
          try clear c27b1
          try clear f8
          try clear c33
          try clear c33b0
          try clear c33b1
          try clear b2
          try clear b3
          try clear b4
          try clear b5
          try clear b6
          try clear e4
          try clear e5
          try clear e6
          try clear e7
          try clear e8
          try clear b7
          try clear b8
          try clear b9
          try clear c0
          try clear c4
          try clear e9
          try clear f0
          try clear f1
          try clear f2
          try clear f3
          try clear c7
          try clear p2
          try clear p4
          try clear c5
          try clear p6
          try clear q4
          try clear c6
          obtain ⟨kq,e0,rfl,HA,v4,G,D,B,J⟩:=hcut;cases kq with
          | zero=>exact absurd HA.1 (by simp [bellpulllaw05_CountHas.j5])
          | succ kj31 =>
           have H:=HA.1;clear HA;simp only [bellpulllaw05_CountHas.j5] at H
           by_cases i0:e0=true
           ·
            subst i0;have V:((bellpulllaw05_lives.f kj31).bind fun g8=>(some g8))=some r:=by rw [if_pos rfl] at H;exact H
            clear H;have H:=V;clear V;replace H:=Option.bind_eq_some_iff.mp H;obtain ⟨g8,j9,H⟩:=H;(try dsimp only at H);have s6:=mk0 j9;clear j9;obtain rfl:=Option.some.inj H;go_wp2_with (first|((with_reducible refine gate_callee (f:=22) rfl ?_);refine goesL_ (some 53) rfl rfl Try.func22 (by kernel_rfl) rfl #[] rfl (by (try simp only [m0_,m1_,m2_]);first|done|rfl|(simp only [l0_,l1_];rfl)) ?_;(with_reducible refine (bellpulllaw05_lives.calls kj31  g8 _ s6.1).mono ?_);rintro e v9 ⟨rfl,hb⟩;refine ⟨_,rfl,?_⟩;replace G:=mk0 (Kd.N_below G.1 hb);replace D:=rbl D hb;replace B:=bkb B hb;replace J:=bst J hb;(try clear hb)));go_ret;exact ⟨by first|rfl|(simp [errW_none,errW_some] <;> rfl)|(simp [*,errW_none,errW_some] <;> rfl),by repeat (first|(with_reducible first|exact J.1|apply below_alloc|apply pw_below_drewN|apply below_drew1|refine below_set ?_ Z.1)|exact J.1)⟩
           ·
            replace i0:=Bool.eq_false_iff.mpr i0;subst i0;have V:((count_Has.f kj31 I E F).bind fun e1=>(if U=0 then ((bellpullref05_Has.f kj31 E F).bind fun d1=>(if e1.1=true then (if d1=true then (if e1.2=0 then ((bellpulllaw05_lives.f kj31).bind fun d2=>(some d2)) else (none)) else (none)) else (if d1=true then (none) else (if e1.2=0 then ((bellpulllaw05_lives.f kj31).bind fun d3=>(some d3)) else (none))))) else (if e1.1=true then (none) else (if e1.2=U then ((bellpulllaw05_lives.f kj31).bind fun f6=>(some f6)) else (none)))))=some r:=by rw [if_neg (show ¬ (false=true) by decide)] at H;exact H
            clear H;have H:=V;clear V;replace H:=Option.bind_eq_some_iff.mp H;obtain ⟨⟨l1,a1⟩,l2,H⟩:=H;(try dsimp only at H);have l3:=mk0 l2;clear l2
            by_cases c39:U=0
            ·
             rw [if_pos c39] at H;have c39b0:(U == 0)=true:=beq_iff_eq.mpr c39;have c39b1:(U != 0)=false:=bne_eq_false_iff_eq.mpr c39;clear c39;replace H:=Option.bind_eq_some_iff.mp H;obtain ⟨d1,l4,H⟩:=H;(try dsimp only at H);have g0:=mk0 l4;clear l4
             by_cases i1:l1=true
             ·
              subst i1;have V:(if d1=true then (if a1=0 then ((bellpulllaw05_lives.f kj31).bind fun d2=>(some d2)) else (none)) else (none))=some r:=by rw [if_pos rfl] at H;exact H
              clear H;have H:=V;clear V
              by_cases i2:d1=true
              ·
               subst i2;have V:(if a1=0 then ((bellpulllaw05_lives.f kj31).bind fun d2=>(some d2)) else (none))=some r:=by rw [if_pos rfl] at H;exact H
               clear H;have H:=V;clear V
               by_cases c43:a1=0
               ·
                rw [if_pos c43] at H;have c43b0:(a1 == 0)=true:=beq_iff_eq.mpr c43;have c43b1:(a1 != 0)=false:=bne_eq_false_iff_eq.mpr c43;clear c43;replace H:=Option.bind_eq_some_iff.mp H;obtain ⟨d2,l5,H⟩:=H;(try dsimp only at H);have s7:=mk0 l5;clear l5;obtain rfl:=Option.some.inj H;have o3:=q0_ B;have o4:=q1_ B;have o5:=q2_ B;have o6:=q3_ B;have o7:=((blk_cell B.1 4).trans rfl);have o8:=blk_frozen B.1 0;have o9:=blk_frozen B.1 1;have p0:=blk_frozen B.1 2;have p1:=blk_frozen B.1 3;have p3:=blk_frozen B.1 4;obtain ⟨g9,h0,o0⟩:=Kd.R_slice D.1;subst o0;go_wp2_with (first|((with_reducible refine gate_callee (f:=23) rfl ?_);refine goesL_ (some 59) rfl rfl Try.func23 (by kernel_rfl) rfl #[.int .i64 I,.slice a8 E.length a9,.slice g9 F.length h0] rfl (by (try simp only [m0_,m1_,m2_]);first|done|rfl|(simp only [l0_,l1_];rfl)) ?_;(with_reducible refine (count_Has.calls kj31 I (fun k_=>(some k_ ≠ (.slice g9 F.length h0:Value).ownBlock∧k_ ≠ L)) _ _ E _ _ F true a1 _ ?side1 ?side2 ?side3 l3.1).mono ?_);(case side1=>exact Kd.N_V (G.1));(case side2=>repeat (first|exact (Kd.R_reads' D.1).2.2|(with_reducible refine Kd.C_alloc ?_ _)|(with_reducible refine Kd.C_drewN ?_ _)|(with_reducible refine Kd.C_drew ?_)));(case side3=>exact (Kd.R_reads' D.1).2.1);rintro e x0 ⟨rfl,hb⟩;refine ⟨_,rfl,?_⟩;replace G:=mk0 (Kd.N_below G.1 hb);replace D:=rbl D hb;replace B:=bkb B hb;replace J:=bst J hb;(try clear hb))|((with_reducible refine gate_callee (f:=24) rfl ?_);refine goesL_ (some 77) rfl rfl Try.func24 (by kernel_rfl) rfl #[.slice a8 E.length a9,.slice g9 F.length h0] rfl (by (try simp only [m0_,m1_,m2_]);first|done|rfl|(simp only [l0_,l1_];rfl)) ?_;(with_reducible refine (bellpullref05_Has.calls kj31 _ _ E _ _ F true _ ?side1 ?side2 ?side3 ?side4 g0.1).mono ?_);(case side1=>repeat (first|exact (Kd.N_reads' G.1).2.2|(with_reducible refine Kd.C_alloc ?_ _)|(with_reducible refine Kd.C_drewN ?_ _)|(with_reducible refine Kd.C_drew ?_)));(case side2=>exact (Kd.N_reads' G.1).2.1);(case side3=>repeat (first|exact (Kd.R_reads' D.1).2.2|(with_reducible refine Kd.C_alloc ?_ _)|(with_reducible refine Kd.C_drewN ?_ _)|(with_reducible refine Kd.C_drew ?_)));(case side4=>exact (Kd.R_reads' D.1).2.1);rintro e x1 ⟨rfl,hb⟩;refine ⟨_,rfl,?_⟩;replace G:=mk0 (Kd.N_below G.1 hb);replace D:=rbl D hb;replace B:=bkb B hb;replace J:=bst J hb;(try clear hb))|(go_at_call 22;(with_reducible refine (bellpulllaw05_lives.calls kj31  d2 _ s7.1).mono ?_);rintro e x2 ⟨rfl,hb⟩;replace G:=mk0 (Kd.N_below G.1 hb);replace D:=rbl D hb;replace B:=bkb B hb;replace J:=bst J hb;(try clear hb)));go_ret;exact ⟨by first|rfl|(simp [errW_none,errW_some] <;> rfl)|(simp [*,errW_none,errW_some] <;> rfl),by repeat (first|(with_reducible first|exact J.1|apply below_alloc|apply pw_below_drewN|apply below_drew1|refine below_set ?_ Z.1)|exact J.1)⟩
               ·
                rw [if_neg c43] at H;exact absurd H (by simp)
              ·
               replace i2:=Bool.eq_false_iff.mpr i2;subst i2;have V:(none)=some r:=by rw [if_neg (show ¬ (false=true) by decide)] at H;exact H
               clear H;have H:=V;clear V;exact absurd H (by simp)
             ·
              replace i1:=Bool.eq_false_iff.mpr i1;subst i1;have V:(if d1=true then (none) else (if a1=0 then ((bellpulllaw05_lives.f kj31).bind fun d3=>(some d3)) else (none)))=some r:=by rw [if_neg (show ¬ (false=true) by decide)] at H;exact H
              clear H;have H:=V;clear V
              by_cases i3:d1=true
              ·
               subst i3;have V:(none)=some r:=by rw [if_pos rfl] at H;exact H
               clear H;have H:=V;clear V;exact absurd H (by simp)
              ·
               replace i3:=Bool.eq_false_iff.mpr i3;subst i3;have V:(if a1=0 then ((bellpulllaw05_lives.f kj31).bind fun d3=>(some d3)) else (none))=some r:=by rw [if_neg (show ¬ (false=true) by decide)] at H;exact H
               clear H;have H:=V;clear V
               by_cases c51:a1=0
               ·
                rw [if_pos c51] at H;have c51b0:(a1 == 0)=true:=beq_iff_eq.mpr c51;have c51b1:(a1 != 0)=false:=bne_eq_false_iff_eq.mpr c51;clear c51;replace H:=Option.bind_eq_some_iff.mp H;obtain ⟨d3,l6,H⟩:=H;(try dsimp only at H);have s8:=mk0 l6;clear l6;obtain rfl:=Option.some.inj H;have p5:=q0_ B;have p7:=q1_ B;have p8:=q2_ B;have p9:=q3_ B;have q0:=((blk_cell B.1 4).trans rfl);have q1:=blk_frozen B.1 0;have q2:=blk_frozen B.1 1;have q3:=blk_frozen B.1 2;have q5:=blk_frozen B.1 3;have q6:=blk_frozen B.1 4;obtain ⟨h1,h2,o1⟩:=Kd.R_slice D.1;subst o1;go_wp2_with (first|((with_reducible refine gate_callee (f:=23) rfl ?_);refine goesL_ (some 59) rfl rfl Try.func23 (by kernel_rfl) rfl #[.int .i64 I,.slice a8 E.length a9,.slice h1 F.length h2] rfl (by (try simp only [m0_,m1_,m2_]);first|done|rfl|(simp only [l0_,l1_];rfl)) ?_;(with_reducible refine (count_Has.calls kj31 I (fun k_=>(some k_ ≠ (.slice h1 F.length h2:Value).ownBlock∧k_ ≠ L)) _ _ E _ _ F false a1 _ ?side1 ?side2 ?side3 l3.1).mono ?_);(case side1=>exact Kd.N_V (G.1));(case side2=>repeat (first|exact (Kd.R_reads' D.1).2.2|(with_reducible refine Kd.C_alloc ?_ _)|(with_reducible refine Kd.C_drewN ?_ _)|(with_reducible refine Kd.C_drew ?_)));(case side3=>exact (Kd.R_reads' D.1).2.1);rintro e x3 ⟨rfl,hb⟩;refine ⟨_,rfl,?_⟩;replace G:=mk0 (Kd.N_below G.1 hb);replace D:=rbl D hb;replace B:=bkb B hb;replace J:=bst J hb;(try clear hb))|((with_reducible refine gate_callee (f:=24) rfl ?_);refine goesL_ (some 77) rfl rfl Try.func24 (by kernel_rfl) rfl #[.slice a8 E.length a9,.slice h1 F.length h2] rfl (by (try simp only [m0_,m1_,m2_]);first|done|rfl|(simp only [l0_,l1_];rfl)) ?_;(with_reducible refine (bellpullref05_Has.calls kj31 _ _ E _ _ F false _ ?side1 ?side2 ?side3 ?side4 g0.1).mono ?_);(case side1=>repeat (first|exact (Kd.N_reads' G.1).2.2|(with_reducible refine Kd.C_alloc ?_ _)|(with_reducible refine Kd.C_drewN ?_ _)|(with_reducible refine Kd.C_drew ?_)));(case side2=>exact (Kd.N_reads' G.1).2.1);(case side3=>repeat (first|exact (Kd.R_reads' D.1).2.2|(with_reducible refine Kd.C_alloc ?_ _)|(with_reducible refine Kd.C_drewN ?_ _)|(with_reducible refine Kd.C_drew ?_)));(case side4=>exact (Kd.R_reads' D.1).2.1);rintro e x4 ⟨rfl,hb⟩;refine ⟨_,rfl,?_⟩;replace G:=mk0 (Kd.N_below G.1 hb);replace D:=rbl D hb;replace B:=bkb B hb;replace J:=bst J hb;(try clear hb))|(go_at_call 22;(with_reducible refine (bellpulllaw05_lives.calls kj31  d3 _ s8.1).mono ?_);rintro e x5 ⟨rfl,hb⟩;replace G:=mk0 (Kd.N_below G.1 hb);replace D:=rbl D hb;replace B:=bkb B hb;replace J:=bst J hb;(try clear hb)));go_ret;exact ⟨by first|rfl|(simp [errW_none,errW_some] <;> rfl)|(simp [*,errW_none,errW_some] <;> rfl),by repeat (first|(with_reducible first|exact J.1|apply below_alloc|apply pw_below_drewN|apply below_drew1|refine below_set ?_ Z.1)|exact J.1)⟩
               ·
                rw [if_neg c51] at H;exact absurd H (by simp)
            ·
             rw [if_neg c39] at H;have c39b0:(U == 0)=false:=beq_eq_false_iff_ne.mpr c39;have c39b1:(U != 0)=true:=bne_iff_ne.mpr c39
             by_cases i4:l1=true
             ·
              subst i4;have V:(none)=some r:=by rw [if_pos rfl] at H;exact H
              clear H;have H:=V;clear V;exact absurd H (by simp)
             ·
              replace i4:=Bool.eq_false_iff.mpr i4;subst i4;have V:(if a1=U then ((bellpulllaw05_lives.f kj31).bind fun f6=>(some f6)) else (none))=some r:=by rw [if_neg (show ¬ (false=true) by decide)] at H;exact H
              clear H;have H:=V;clear V
              by_cases c59:a1=U
              ·
               rw [if_pos c59] at H;have c59b0:(a1 == U)=true:=beq_iff_eq.mpr c59;have c59b1:(a1 != U)=false:=bne_eq_false_iff_eq.mpr c59;clear c59;replace H:=Option.bind_eq_some_iff.mp H;obtain ⟨f6,l7,H⟩:=H;(try dsimp only at H);have s9:=mk0 l7;clear l7;obtain rfl:=Option.some.inj H;have q7:=q0_ B;have q8:=q1_ B;have q9:=q2_ B;have r0:=q3_ B;have r1:=((blk_cell B.1 4).trans rfl);have r2:=blk_frozen B.1 0;have r3:=blk_frozen B.1 1;have r4:=blk_frozen B.1 2;have r5:=blk_frozen B.1 3;have r6:=blk_frozen B.1 4;obtain ⟨l8,l9,o2⟩:=Kd.R_slice D.1;subst o2;go_wp2_with (first|((with_reducible refine gate_callee (f:=23) rfl ?_);refine goesL_ (some 59) rfl rfl Try.func23 (by kernel_rfl) rfl #[.int .i64 I,.slice a8 E.length a9,.slice l8 F.length l9] rfl (by (try simp only [m0_,m1_,m2_]);first|done|rfl|(simp only [l0_,l1_];rfl)) ?_;(with_reducible refine (count_Has.calls kj31 I (fun k_=>(some k_ ≠ (.slice l8 F.length l9:Value).ownBlock∧k_ ≠ L)) _ _ E _ _ F false a1 _ ?side1 ?side2 ?side3 l3.1).mono ?_);(case side1=>exact Kd.N_V (G.1));(case side2=>repeat (first|exact (Kd.R_reads' D.1).2.2|(with_reducible refine Kd.C_alloc ?_ _)|(with_reducible refine Kd.C_drewN ?_ _)|(with_reducible refine Kd.C_drew ?_)));(case side3=>exact (Kd.R_reads' D.1).2.1);rintro e x6 ⟨rfl,hb⟩;refine ⟨_,rfl,?_⟩;replace G:=mk0 (Kd.N_below G.1 hb);replace D:=rbl D hb;replace B:=bkb B hb;replace J:=bst J hb;(try clear hb))|(go_at_call 22;(with_reducible refine (bellpulllaw05_lives.calls kj31  f6 _ s9.1).mono ?_);rintro e x7 ⟨rfl,hb⟩;replace G:=mk0 (Kd.N_below G.1 hb);replace D:=rbl D hb;replace B:=bkb B hb;replace J:=bst J hb;(try clear hb)));go_ret;exact ⟨by first|rfl|(simp [errW_none,errW_some] <;> rfl)|(simp [*,errW_none,errW_some] <;> rfl),by repeat (first|(with_reducible first|exact J.1|apply below_alloc|apply pw_below_drewN|apply below_drew1|refine below_set ?_ Z.1)|exact J.1)⟩
              ·
               rw [if_neg c59] at H;exact absurd H (by simp)
end Go.Proofs.Ytkonljiembcdlaa.PC
namespace Go.Proofs.Ytkonljiembcdlaa.PC
open Go.Proofs.MyWords Go.RowKit Go.Proofs.YtkonljiembcdlaaW.PrintWords Go.Proofs.YtkonljiembcdlaaW.PrintLast Go.Proofs.YtkonljiembcdlaaW.PrintMore
attribute [local go_sem] max2_int min2_int max_two min_two max_three min_three max_four min_four   -- for this text's walks alone
set_option linter.unusedVariables false
set_option linter.unusedSimpArgs false
attribute [local go_sem] eqGuard_slices eqlnil23 neqnil23 eqlnil58 neqnil58
def bellpulllaw05_text.f (a0:ByteArray):Option (ByteArray):=if 0 ≤ (mn (a0.size:Int) 31) then (if (mn (a0.size:Int) 31) ≤ (a0.size:Int) then (some (a0.extract 0 ((mn (a0.size:Int) 31):Int).toNat)) else (none)) else (none)
end Go.Proofs.Ytkonljiembcdlaa.PC
/- Small tools for statements of the form 'with enough rounds the answer is r'. -/
set_option linter.unusedVariables false
set_option linter.unusedSimpArgs false
namespace Go.Proofs.Ytkonljiembcdlaa.Pure
open Go.RowKit Go.Proofs.YtkonljiembcdlaaW.PrintWords
theorem wrap_id {x:Int} (h0:-9223372036854775808 ≤ x) (h1:x ≤ 9223372036854775807):wrap64 x=x:=by
  unfold wrap64;omega
section
variable {α β:Type} {g a b:Nat → Option α} {r:α}
theorem Ev.rounds (h:Ev g r):∃ k,g k=some r:=by
  obtain ⟨K,hK⟩:=h
  exact ⟨K,hK K (Nat.le_refl _)⟩
theorem Ev.succ (h:Ev (fun k=>g (k + 1)) r):Ev g r:=Ev.step (fun _=>rfl) h
theorem Ev.pos {c:Prop} [Decidable c] (hc:c) (h:Ev a r):Ev (fun k=>if c then a k else b k) r:=by
  simpa only [if_pos hc] using h
theorem Ev.neg {c:Prop} [Decidable c] (hc:¬ c) (h:Ev b r):Ev (fun k=>if c then a k else b k) r:=by
  simpa only [if_neg hc] using h
theorem Ev.bindc {o:Option β} {f:Nat → β → Option α} {x:β} (ho:o=some x) (h:Ev (fun k=>f k x) r):Ev (fun k=>o.bind (f k)) r:=by
  subst ho;simpa only [Option.bind_some] using h
end
theorem rd_app (pre:List Int) (x:Int) (t:List Int):rd (pre ++ x :: t) (pre.length:Int)=x:=by
  simp [rd,List.getD_eq_getElem?_getD]
end Go.Proofs.Ytkonljiembcdlaa.Pure
/- Sums of periods, in plain Lean. -/
set_option linter.unusedVariables false
namespace Go.Proofs.Ytkonljiembcdlaa.Sem
abbrev Vec:=List Int
def addV:Vec → Vec → Vec
  | x :: v,y :: w=>(x + y) :: addV v w
  | _,_=>[]
def subV:Vec → Vec → Vec
  | x :: v,y :: w=>(x - y) :: subV v w
  | _,_=>[]
def zeroN (d:Nat):Vec:=List.replicate d 0
def nnV (v:Vec):Prop:=∀ x,x ∈ v → 0 ≤ x
instance (v:Vec):Decidable (nnV v):=by unfold nnV;infer_instance
theorem addV_comm:∀ v w:Vec,addV v w=addV w v
  | [],[]=>rfl
  | [],y :: w=>rfl
  | x :: v,[]=>rfl
  | x :: v,y :: w=>by rw [addV,addV,addV_comm v w,Int.add_comm]
theorem addV_assoc:∀ v w u:Vec,addV (addV v w) u=addV v (addV w u)
  | [],w,u=>by simp [addV]
  | x :: v,[],u=>by simp [addV]
  | x :: v,y :: w,[]=>by simp [addV]
  | x :: v,y :: w,z :: u=>by rw [addV,addV,addV,addV,addV_assoc v w u,Int.add_assoc]
theorem addV_swap (v w u:Vec):addV (addV v w) u=addV (addV v u) w:=by
  rw [addV_assoc,addV_comm w u,← addV_assoc]
theorem addV_len {d:Nat}:∀ {v w:Vec},v.length=d → w.length=d → (addV v w).length=d:=by
  induction d with
  | zero=>intro v w hv hw;rw [List.length_eq_zero_iff.1 hv,List.length_eq_zero_iff.1 hw];rfl
  | succ d ih =>
    intro v w hv hw
    match v,w,hv,hw with
    | x :: v,y :: w,hv,hw=>simp at hv hw;simp [addV,ih hv hw]
theorem subV_len {d:Nat}:∀ {v w:Vec},v.length=d → w.length=d → (subV v w).length=d:=by
  induction d with
  | zero=>intro v w hv hw;rw [List.length_eq_zero_iff.1 hv,List.length_eq_zero_iff.1 hw];rfl
  | succ d ih =>
    intro v w hv hw
    match v,w,hv,hw with
    | x :: v,y :: w,hv,hw=>simp at hv hw;simp [subV,ih hv hw]
theorem zeroN_len (d:Nat):(zeroN d).length=d:=List.length_replicate
theorem zeroN_mem {d:Nat} {x:Int} (h:x ∈ zeroN d):x=0:=List.eq_of_mem_replicate h
theorem zeroN_succ (d:Nat):zeroN (d + 1)=0 :: zeroN d:=rfl
theorem eq_zeroN:∀ {v:Vec} {d:Nat},v.length=d → (∀ x,x ∈ v → x=0) → v=zeroN d
  | v,d,h,hz=>List.eq_replicate_iff.2 ⟨h,hz⟩
theorem addV_zero:∀ {v:Vec} {d:Nat},v.length=d → addV v (zeroN d)=v
  | [],0,_=>rfl
  | x :: v,d + 1,h=>by
    simp at h
    rw [zeroN_succ,addV,addV_zero h,Int.add_zero]
theorem zero_addV {v:Vec} {d:Nat} (h:v.length=d):addV (zeroN d) v=v:=by rw [addV_comm,addV_zero h]
theorem subV_add:∀ {v w:Vec},v.length=w.length → addV (subV v w) w=v
  | [],[],_=>rfl
  | x :: v,y :: w,h=>by
    simp at h
    rw [subV,addV,subV_add h,Int.sub_add_cancel]
theorem addV_sub:∀ {v w:Vec},v.length=w.length → subV (addV v w) w=v
  | [],[],_=>rfl
  | x :: v,y :: w,h=>by
    simp at h
    rw [addV,subV,addV_sub h,Int.add_sub_cancel]
theorem sum_addV:∀ {v w:Vec},v.length=w.length → (addV v w).sum=v.sum + w.sum
  | [],[],_=>rfl
  | x :: v,y :: w,h=>by
    simp at h
    rw [addV,List.sum_cons,List.sum_cons,List.sum_cons,sum_addV h]
    omega
theorem sum_subV {v w:Vec} (h:v.length=w.length):(subV v w).sum=v.sum - w.sum:=by
  have h1:=sum_addV (v:=subV v w) (w:=w) (by rw [subV_len h rfl])
  rw [subV_add h] at h1
  omega
theorem sum_zeroN:∀ d,(zeroN d).sum=0
  | 0=>rfl
  | d + 1=>by rw [zeroN_succ,List.sum_cons,sum_zeroN d];rfl
theorem nn_addV:∀ {v w:Vec},nnV v → nnV w → nnV (addV v w)
  | [],w,_,_=>by intro x hx;simp [addV] at hx
  | x :: v,[],_,_=>by intro x hx;simp [addV] at hx
  | x :: v,y :: w,hv,hw=>by
    intro z hz
    rw [addV] at hz
    rcases List.mem_cons.1 hz with rfl|hz
    · have:=hv x (by simp)
      have:=hw y (by simp)
      omega
    · exact nn_addV (fun a ha=>hv a (by simp [ha])) (fun a ha=>hw a (by simp [ha])) z hz
theorem sum_nn:∀ {v:Vec},nnV v → 0 ≤ v.sum
  | [],_=>by simp
  | x :: v,h=>by
    rw [List.sum_cons]
    have:=h x (by simp)
    have:=sum_nn (v:=v) (fun a ha=>h a (by simp [ha]))
    omega
theorem zero_of_sum:∀ {v:Vec},nnV v → v.sum=0 → ∀ x,x ∈ v → x=0
  | [],_,_=>by simp
  | x :: v,h,hs=>by
    rw [List.sum_cons] at hs
    have h1:=h x (by simp)
    have h2:=sum_nn (v:=v) (fun a ha=>h a (by simp [ha]))
    intro y hy
    rcases List.mem_cons.1 hy with rfl|hy
    · omega
    · exact zero_of_sum (fun a ha=>h a (by simp [ha])) (by omega) y hy
theorem nn_zeroN (d:Nat):nnV (zeroN d):=fun x hx=>by rw [zeroN_mem hx];decide
inductive Comb (d:Nat) (ps:List Vec):Vec → Prop
  | zero:Comb d ps (zeroN d)
  | add {p w}:p ∈ ps → Comb d ps w → Comb d ps (addV w p)
def okD (d:Nat) (ps:List Vec):Prop:=∀ p,p ∈ ps → p.length=d∧nnV p
theorem okD.tail {d:Nat} {p:Vec} {ps:List Vec} (h:okD d (p :: ps)):okD d ps:=fun q hq=>h q (by simp [hq])
section
variable {d:Nat} {ps:List Vec}
theorem Comb.len (hp:okD d ps) {v:Vec} (h:Comb d ps v):v.length=d:=by
  induction h with
  | zero=>exact zeroN_len d
  | add h1 _ ih=>exact addV_len ih (hp _ h1).1
theorem Comb.nn (hp:okD d ps) {v:Vec} (h:Comb d ps v):nnV v:=by
  induction h with
  | zero=>exact nn_zeroN d
  | add h1 _ ih=>exact nn_addV ih (hp _ h1).2
theorem Comb.mono {qs:List Vec} (hs:∀ p,p ∈ ps → p ∈ qs) {v:Vec} (h:Comb d ps v):Comb d qs v:=by
  induction h with
  | zero=>exact .zero
  | add h1 _ ih=>exact .add (hs _ h1) ih
theorem Comb.one (hp:okD d ps) {p:Vec} (h:p ∈ ps):Comb d ps p:=by
  have:=Comb.add (d:=d) h .zero
  rwa [zero_addV (hp p h).1] at this
theorem comb_nil {v:Vec}:Comb d [] v ↔ v=zeroN d :=
  ⟨fun h=>by cases h with
    | zero=>rfl
    | add h1 _=>simp at h1,fun h=>h ▸ .zero⟩
theorem comb_cons {p v:Vec}:Comb d (p :: ps) v ↔ Comb d ps v ∨ ∃ w,Comb d (p :: ps) w∧v=addV w p:=by
  constructor
  · intro h
    induction h with
    | zero=>exact .inl .zero
    | @add q w h1 h2 ih =>
      rcases List.mem_cons.1 h1 with rfl|h1
      · exact .inr ⟨w,h2,rfl⟩
      · rcases ih with ih|⟨u,hu,rfl⟩
        · exact .inl (.add h1 ih)
        · exact .inr ⟨addV u q,.add (by simp [h1]) hu,addV_swap _ _ _⟩
  · rintro (h|⟨w,h,rfl⟩)
    · exact h.mono (fun q hq=>by simp [hq])
    · exact .add (by simp) h
theorem comb_sub {p v:Vec} (hp:okD d (p :: ps)) (hv:v.length=d):Comb d (p :: ps) v ↔ Comb d ps v ∨ Comb d (p :: ps) (subV v p):=by
  have hl:v.length=p.length:=hv.trans (hp p (by simp)).1.symm
  rw [comb_cons]
  constructor
  · rintro (h|⟨w,h,rfl⟩)
    · exact .inl h
    · rw [addV_sub ((h.len hp).trans (hp p (by simp)).1.symm)]
      exact .inr h
  · rintro (h|h)
    · exact .inl h
    · exact .inr ⟨_,h,(subV_add hl).symm⟩
theorem comb_skip {p:Vec} (hz:p=zeroN d) (hp:okD d ps) {v:Vec}:Comb d (p :: ps) v ↔ Comb d ps v:=by
  constructor
  · intro h
    induction h with
    | zero=>exact .zero
    | add h1 _ ih =>
      rcases List.mem_cons.1 h1 with rfl|h1
      · rw [hz,addV_zero (ih.len hp)];exact ih
      · exact .add h1 ih
  · exact fun h=>h.mono (fun q hq=>by simp [hq])
theorem comb_filter (hp:okD d ps) (f:Vec → Bool) (hf:∀ p,p ∈ ps → f p=false → p=zeroN d) {v:Vec}:Comb d (ps.filter f) v ↔ Comb d ps v:=by
  constructor
  · exact fun h=>h.mono (fun q hq=>(List.mem_filter.1 hq).1)
  · intro h
    have ho:okD d (ps.filter f):=fun q hq=>hp q (List.mem_filter.1 hq).1
    induction h with
    | zero=>exact .zero
    | @add p w h1 _ ih =>
      cases hb:f p with
      | true=>exact .add (List.mem_filter.2 ⟨h1,hb⟩) ih
      | false=>rw [hf p h1 hb,addV_zero (ih.len ho)];exact ih
end
end Go.Proofs.Ytkonljiembcdlaa.Sem
/- Differences of vectors, and sums of periods, as the program and the reference take them, in plain Lean. -/
set_option linter.unusedVariables false
set_option linter.unusedSimpArgs false
namespace Go.Proofs.Ytkonljiembcdlaa.Pure
open Go.RowKit Go.Proofs.MyWords Go.Proofs.YtkonljiembcdlaaW.PrintWords Go.Proofs.YtkonljiembcdlaaW.PrintLast Go.Proofs.YtkonljiembcdlaaW.PrintMore Go.Proofs.Ytkonljiembcdlaa.PC Go.Proofs.Ytkonljiembcdlaa.Sem
theorem getD_app {α:Type} (pre:List α) (x:α) (t:List α) (d:α):(pre ++ x :: t).getD ((pre.length:Int)).toNat d=x:=by
  simp [List.getD_eq_getElem?_getD]
theorem rdL1_app (pre:List (List Int)) (x:List Int) (t:List (List Int)):rd_L1 (pre ++ x :: t) (pre.length:Int)=x:=getD_app _ _ _ _
theorem rdL4_app (pre:List (List S60)) (x:List S60) (t:List (List S60)):rd_L4 (pre ++ x :: t) (pre.length:Int)=x:=getD_app _ _ _ _
theorem rdT60_app (pre:List S60) (x:S60) (t:List S60):rd_T60 (pre ++ x :: t) (pre.length:Int)=x:=getD_app _ _ _ _
theorem wsucc {n:Nat} (h:n < 4611686018427387904):wrap64 ((n:Int) + 1)=((n + 1:Nat):Int):=by rw [wrap_id (by omega) (by omega)];omega
theorem len_snoc {α:Type} (pre:List α) (x:α):pre.length + 1=(pre ++ [x]).length:=by simp
theorem app_snoc {α:Type} (pre:List α) (x:α) (t:List α):pre ++ x :: t=(pre ++ [x]) ++ t:=by simp
theorem lt_app {α:Type} (pre:List α) (x:α) (t:List α):(pre.length:Int) < ((pre ++ x :: t).length:Int):=by simp;omega
theorem set_app {α:Type} (pre:List α) (x y:α) (t:List α):(pre ++ x :: t).set ((pre.length:Int)).toNat y=pre ++ y :: t:=by simp
def inB (m:Int) (v:List Int):Prop:=∀ x,x ∈ v → 0 ≤ x∧x ≤ m
theorem inB.nn {m:Int} {v:List Int} (h:inB m v):nnV v:=fun x hx=>(h x hx).1
theorem outside_iff (v:List Int) (m:Int):(v.any fun x=>decide (x < 0) || decide (m < x))=true ↔ ¬ inB m v:=by
  rw [List.any_eq_true]
  constructor
  · rintro ⟨x,hx,h⟩ hi
    have:=hi x hx
    simp at h
    omega
  · intro h
    apply Classical.byContradiction
    intro h2
    refine h (fun x hx=>?_)
    apply Classical.byContradiction
    intro h3
    exact h2 ⟨x,hx,by simp;omega⟩
theorem less_go (m:Int):∀ (v2 w2 v1 w1 o1:List Int),v1.length=w1.length → o1.length=v1.length → v2.length=w2.length → inB 1000000 v2 → inB 1000000 w2 → (v1 ++ v2).length < 1000000 →
    Ev (fun k=>count_less.l0 k (v1 ++ v2) (w1 ++ w2) (o1 ++ List.replicate v2.length 0) ((v1 ++ v2).length:Int) (v1.length:Int)) (o1 ++ subV v2 w2,!((o1 ++ subV v2 w2).any fun x=>decide (x < 0) || decide (60 < x)))
  | [],[],v1,w1,o1,h1,h2,h3,b1,b2,hl=>by
    refine Ev.succ ?_
    simp only [count_less.l0]
    refine Ev.neg (by simp) ?_
    refine Ev.bindc (x:=(o1 ++ subV [] []).any fun x=>decide (x < 0) || decide (60 < x)) (by simp [count_outside.f,subV]) ?_
    simp [subV]
    exact Ev.now _
  | x :: v2,y :: w2,v1,w1,o1,h1,h2,h3,b1,b2,hl=>by
    have hlen:(v1 ++ x :: v2).length=v1.length + (v2.length + 1):=by simp
    have ih:=less_go m v2 w2 (v1 ++ [x]) (w1 ++ [y]) (o1 ++ [x - y]) (by simp [h1]) (by simp [h2]) (by simpa using h3) (fun z hz=>b1 z (by simp [hz])) (fun z hz=>b2 z (by simp [hz])) (by simp at hl ⊢;omega)
    have bx:=b1 x (by simp)
    have by':=b2 y (by simp)
    refine Ev.succ ?_
    simp only [count_less.l0]
    refine Ev.pos (by simp;omega) (Ev.pos (by omega) (Ev.pos (by simp;omega) (Ev.pos (by simp;omega) (Ev.pos (by simp;omega) ?_))))
    rw [rd_app v1 x v2,show (v1.length:Int)=(w1.length:Int) by omega,rd_app w1 y w2,← h1,wrap_id (by omega) (by omega),wsucc (by simp at hl;omega)]
    rw [← app_snoc,← app_snoc] at ih
    have e:(o1 ++ List.replicate (x :: v2).length 0).set ((v1.length:Int)).toNat (x - y)=o1 ++ [x - y] ++ List.replicate v2.length 0:=by
      rw [← h2,List.length_cons,List.replicate_succ,set_app];simp
    rw [e,len_snoc v1 x,subV]
    rw [List.append_assoc o1 [x - y] (subV v2 w2)] at ih
    exact ih
theorem less_ev {v w:List Int} (h:v.length=w.length) (hv:inB 1000000 v) (hw:inB 1000000 w) (hl:v.length < 1000000):Ev (fun k=>count_less.f k v w) (subV v w,!((subV v w).any fun x=>decide (x < 0) || decide (60 < x))):=by
  have:=less_go 0 v w [] [] [] rfl rfl h hv hw hl
  simp only [List.nil_append,List.length_nil] at this
  unfold count_less.f
  refine Ev.pos (by omega) (Ev.pos (by omega) ?_)
  rw [Int.toNat_natCast]
  exact this
theorem less_ok {m:Int} {v w:List Int} (h:v.length=w.length) (hv:inB 60 v) (hw:inB 1000000 w) (hl:v.length < 1000000):Ev (fun k=>count_less.f k v w) (subV v w,decide (nnV (subV v w))):=by
  have h1:=less_ev h (fun x hx=>⟨(hv x hx).1,by have:=hv x hx;omega⟩) hw hl
  have le60:∀ (v w:List Int),inB 60 v → nnV w → ∀ x,x ∈ subV v w → x ≤ 60:=fun v=>by
    induction v with
    | nil=>intro w _ _ x hx;simp [subV] at hx
    | cons a v ih =>
      intro w hv hw x hx
      match w,hw,hx with
      | b :: w,hw,hx =>
        rw [subV] at hx
        rcases List.mem_cons.1 hx with rfl|hx
        · have:=hv a (by simp)
          have:=hw b (by simp)
          omega
        · exact ih w (fun z hz=>hv z (by simp [hz])) (fun z hz=>hw z (by simp [hz])) x hx
  have e:(!((subV v w).any fun x=>decide (x < 0) || decide (60 < x)))=decide (nnV (subV v w)):=by
    rw [Bool.eq_iff_iff,decide_eq_true_iff,Bool.not_eq_true',← Bool.not_eq_true,outside_iff]
    constructor
    · intro h x hx
      exact (Classical.byContradiction h x hx).1
    · exact fun h hn=>hn (fun x hx=>⟨h x hx,le60 v w hv hw.nn x hx⟩)
  rw [← e]
  exact h1
theorem refLess_go:∀ (v2 w2 v1 w1 o1:List Int) (ok:Bool),v1.length=w1.length → v2.length=w2.length → inB 1000000 v2 → inB 1000000 w2 → (v1 ++ v2).length < 1000000 → o1.length=v1.length →
    Ev (fun k=>bellpullref05_Less.l0 k (v1 ++ v2) (w1 ++ w2) o1 ok (v1.length:Int)) (o1 ++ subV v2 w2,ok && decide (nnV (subV v2 w2)))
  | [],[],v1,w1,o1,ok,h1,h3,b1,b2,hl,ho=>by
    refine Ev.succ ?_
    simp only [bellpullref05_Less.l0]
    refine Ev.neg (by simp) ?_
    have:decide (nnV (subV [] []))=true:=decide_eq_true (fun x hx=>by simp [subV] at hx)
    rw [this]
    simp [subV]
    exact Ev.now _
  | x :: v2,y :: w2,v1,w1,o1,ok,h1,h3,b1,b2,hl,ho=>by
    have ih:∀ ok:Bool,Ev (fun k=>bellpullref05_Less.l0 k (v1 ++ x :: v2) (w1 ++ y :: w2) (o1 ++ [x - y]) ok ((v1.length + 1:Nat):Int)) (o1 ++ (x - y) :: subV v2 w2,ok && decide (nnV (subV v2 w2))):=fun ok=>by
      have:=refLess_go v2 w2 (v1 ++ [x]) (w1 ++ [y]) (o1 ++ [x - y]) ok (by simp [h1]) (by simpa using h3) (fun z hz=>b1 z (by simp [hz])) (fun z hz=>b2 z (by simp [hz])) (by simp at hl ⊢;omega) (by simp [ho])
      rw [← app_snoc,← app_snoc,← len_snoc,List.append_assoc o1] at this
      exact this
    have bx:=b1 x (by simp)
    have by':=b2 y (by simp)
    have e:decide (nnV (subV (x :: v2) (y :: w2)))=(decide (x ≥ y) && decide (nnV (subV v2 w2))):=by
      rw [Bool.eq_iff_iff,Bool.and_eq_true,decide_eq_true_iff,decide_eq_true_iff,decide_eq_true_iff,subV]
      constructor
      · exact fun h=>⟨by have:=h (x - y) (by simp);omega,fun z hz=>h z (by simp [hz])⟩
      · rintro ⟨h,h2⟩ z hz
        rcases List.mem_cons.1 hz with rfl|hz
        · omega
        · exact h2 z hz
    refine Ev.succ ?_
    simp only [bellpullref05_Less.l0]
    refine Ev.pos (by simp;omega) (Ev.pos (by omega) (Ev.pos (by simp;omega) (Ev.pos (by simp at hl;omega) ?_)))
    rw [rd_app v1 x v2,show (v1.length:Int)=(w1.length:Int) by omega,rd_app w1 y w2,← h1,wrap_id (by omega) (by omega),wsucc (by simp at hl;omega)]
    simp only [Option.bind_some]
    rw [e,subV]
    cases ok with
    | true =>
      refine Ev.pos rfl ?_
      rw [Bool.true_and]
      exact ih _
    | false =>
      refine Ev.neg (by simp) ?_
      rw [Bool.false_and]
      have:=ih false
      rw [Bool.false_and] at this
      exact this
theorem refLess_ev {v w:List Int} (h:v.length=w.length) (hv:inB 1000000 v) (hw:inB 1000000 w) (hl:v.length < 1000000):Ev (fun k=>bellpullref05_Less.f k v w) (subV v w,decide (nnV (subV v w))):=by
  have:=refLess_go v w [] [] [] true rfl h hv hw hl rfl
  simp only [List.nil_append,List.length_nil,Bool.true_and] at this
  exact this
theorem refTotal_go:∀ (v2 v1:List Int) (s:Int),inB 1000000 v2 → 0 ≤ s → s ≤ 1000000 * v1.length → (v1 ++ v2).length < 1000000 → Ev (fun k=>bellpullref05_Total.l0 k (v1 ++ v2) s (v1.length:Int)) (s + v2.sum)
  | [],v1,s,_,h0,h1,hl=>by
    refine Ev.succ ?_
    simp only [bellpullref05_Total.l0]
    refine Ev.neg (by simp) ?_
    simp
    exact Ev.now _
  | x :: v2,v1,s,hb,h0,h1,hl=>by
    have bx:=hb x (by simp)
    have ih:=refTotal_go v2 (v1 ++ [x]) (s + x) (fun z hz=>hb z (by simp [hz])) (by omega) (by simp;omega) (by simp at hl ⊢;omega)
    rw [← app_snoc,← len_snoc] at ih
    refine Ev.succ ?_
    simp only [bellpullref05_Total.l0]
    refine Ev.pos (by simp;omega) (Ev.pos (by omega) ?_)
    have hl2:v1.length < 1000000:=by simp at hl;omega
    rw [rd_app,wrap_id (x:=s + x) (by omega) (by omega),wsucc (by omega),List.sum_cons,← Int.add_assoc]
    exact ih
theorem refTotal_ev {v:List Int} (hv:inB 1000000 v) (hl:v.length < 1000000):Ev (fun k=>bellpullref05_Total.f k v) v.sum:=by
  have:=refTotal_go v [] 0 hv (by omega) (by simp) hl
  simp only [List.nil_append,List.length_nil,Int.zero_add] at this
  exact this
end Go.Proofs.Ytkonljiembcdlaa.Pure
/- Has, of the program and of the reference, in plain Lean. -/
set_option linter.unusedVariables false
set_option linter.unusedSimpArgs false
namespace Go.Proofs.Ytkonljiembcdlaa.Pure
open Go.RowKit Go.Proofs.MyWords Go.Proofs.YtkonljiembcdlaaW.PrintWords Go.Proofs.YtkonljiembcdlaaW.PrintLast Go.Proofs.YtkonljiembcdlaaW.PrintMore Go.Proofs.Ytkonljiembcdlaa.PC Go.Proofs.Ytkonljiembcdlaa.Sem
def okV (d:Nat) (m:Int) (v:List Int):Prop:=v.length=d∧inB m v
theorem okV.mono {d:Nat} {m n:Int} {v:List Int} (h:okV d m v) (hm:m ≤ n):okV d n v:=⟨h.1,fun x hx=>⟨(h.2 x hx).1,by have:=h.2 x hx;omega⟩⟩
def okP (d:Nat) (ps:List (List Int)):Prop:=∀ p,p ∈ ps → okV d 1000000 p
theorem okP.okD {d:Nat} {ps:List (List Int)} (h:okP d ps):okD d ps:=fun p hp=>⟨(h p hp).1,(h p hp).2.nn⟩
theorem okP.tail {d:Nat} {p:List Int} {ps:List (List Int)} (h:okP d (p :: ps)):okP d ps:=fun q hq=>h q (by simp [hq])
theorem sub60 {d:Nat} {v w:List Int} (hv:okV d 60 v) (hw:okV d 1000000 w) (h:nnV (subV v w)):okV d 60 (subV v w):=by
  refine ⟨subV_len hv.1 hw.1,fun x hx=>⟨h x hx,?_⟩⟩
  have:∀ (v w:List Int),inB 60 v → nnV w → ∀ x,x ∈ subV v w → x ≤ 60:=fun v=>by
    induction v with
    | nil=>intro w _ _ x hx;simp [subV] at hx
    | cons a v ih =>
      intro w hv hw x hx
      match w,hw,hx with
      | b :: w,hw,hx =>
        rw [subV] at hx
        rcases List.mem_cons.1 hx with rfl|hx
        · have:=hv a (by simp)
          have:=hw b (by simp)
          omega
        · exact ih w (fun z hz=>hv z (by simp [hz])) (fun z hz=>hw z (by simp [hz])) x hx
  exact this v w hv.2 hw.2.nn x hx
theorem zeroV_iff (v:List Int):zeroV v=true ↔ ∀ x,x ∈ v → x=0:=by
  unfold zeroV
  rw [Bool.not_eq_true',← Bool.not_eq_true,List.any_eq_true]
  constructor
  · intro h x hx
    apply Classical.byContradiction
    intro h2
    exact h ⟨x,hx,by simp [h2]⟩
  · rintro h ⟨x,hx,h2⟩
    rw [h x hx] at h2
    simp at h2
theorem zero_f (v:List Int):count_zero.f v=some (zeroV v):=rfl
theorem pos_of_nz {p:List Int} (hn:nnV p) (h:zeroV p=false):0 < p.sum:=by
  have:=sum_nn hn
  rcases Int.lt_or_eq_of_le this with h1|h1
  · exact h1
  · have:=(zeroV_iff p).2 (zero_of_sum hn h1.symm)
    rw [h] at this
    cases this
theorem made_nil (v:List Int):Ev (fun k=>count_made.f k v []) (zeroV v):=by
  refine Ev.succ ?_
  simp only [count_made.f,zero_f,Option.bind_some]
  cases h:zeroV v with
  | true=>exact Ev.pos rfl (Ev.now _)
  | false=>exact Ev.neg (by simp) (Ev.pos (by simp) (Ev.now _))
theorem made_ev (d:Nat) (hd:d < 1000000):∀ (ps:List (List Int)),okP d ps → (∀ p,p ∈ ps → zeroV p=false) → ∀ v,okV d 60 v → ∃ b,Ev (fun k=>count_made.f k v ps) b∧(b=true ↔ Comb d ps v)
  | [],_,_,v,hv=>⟨_,made_nil v,by
      rw [zeroV_iff,comb_nil]
      exact ⟨eq_zeroN hv.1,fun h x hx=>by rw [h] at hx;exact zeroN_mem hx⟩⟩
  | p :: ps,hp,hz,v,hv=>by
    have IH:=made_ev d hd ps hp.tail (fun q hq=>hz q (by simp [hq]))
    have pp:0 < p.sum:=pos_of_nz (hp p (by simp)).2.nn (hz p (by simp))
    have loop:∀ (n:Nat) (v:List Int),v.sum.toNat < n → okV d 60 v → ∃ b,Ev (fun k=>count_made.l0 k v (p :: ps) true) b∧(b=true ↔ Comb d (p :: ps) v):=fun n=>by
      induction n with
      | zero=>intro v h _;omega
      | succ n ih =>
        intro v hn hv
        have hl:v.length=p.length:=hv.1.trans (hp p (by simp)).1.symm
        have hle:=less_ok (m:=0) hl hv.2 (hp p (by simp)).2 (by rw [hv.1];exact hd)
        obtain ⟨b1,e1,i1⟩:=IH v hv
        have hc:=comb_sub hp.okD (v:=v) hv.1
        cases b1 with
        | true =>
          refine ⟨true,?_,⟨fun _=>hc.2 (.inl (i1.1 rfl)),fun _=>rfl⟩⟩
          refine Ev.succ ?_
          simp only [count_made.l0]
          refine Ev.pos trivial (Ev.pos (by simp <;> omega) (Ev.bind e1 (Ev.pos rfl (Ev.now _))))
        | false =>
          have hno:¬ Comb d ps v:=fun h=>by have:=i1.2 h;cases this
          have rd0:rd_L1 (p :: ps) 0=p:=rfl
          have start:∀ b,Ev (fun k=>count_made.l0 k (subV v p) (p :: ps) (decide (nnV (subV v p)))) b → Ev (fun k=>count_made.l0 k v (p :: ps) true) b:=fun b hb=>by
            refine Ev.succ ?_
            simp only [count_made.l0]
            refine Ev.pos trivial (Ev.pos (by simp <;> omega) (Ev.bind e1 (Ev.neg (by simp) (Ev.pos (by simp <;> omega) ?_))))
            rw [rd0]
            exact Ev.bind hle hb
          by_cases hnn:nnV (subV v p)
          · have hs:=sub60 hv (hp p (by simp)) hnn
            have hsum:=sum_subV hl
            have:=sum_nn hs.2.nn
            have:=sum_nn hv.2.nn
            obtain ⟨b,e2,i2⟩:=ih (subV v p) (by omega) hs
            refine ⟨b,start b (by rw [decide_eq_true hnn];exact e2),?_⟩
            rw [i2,hc]
            exact ⟨.inr,fun h=>h.resolve_left hno⟩
          · refine ⟨false,start false (by rw [decide_eq_false hnn];refine Ev.succ ?_;simp only [count_made.l0];exact Ev.neg (by simp) (Ev.now _)),⟨fun h=>(by cases h),fun h=>?_⟩⟩
            rcases hc.1 h with h|h
            · exact absurd h hno
            · exact absurd (h.nn hp.okD) hnn
    cases hzv:zeroV v with
    | true =>
      have:v=zeroN d:=eq_zeroN hv.1 ((zeroV_iff v).1 hzv)
      refine ⟨true,?_,⟨fun _=>this ▸ .zero,fun _=>rfl⟩⟩
      refine Ev.succ ?_
      simp only [count_made.f,zero_f,Option.bind_some,hzv]
      exact Ev.pos trivial (Ev.now _)
    | false =>
      obtain ⟨b,e,i⟩:=loop (v.sum.toNat + 1) v (by omega) hv
      refine ⟨b,?_,i⟩
      refine Ev.succ ?_
      simp only [count_made.f,zero_f,Option.bind_some,hzv]
      exact Ev.neg (by simp) (Ev.neg (by simp <;> omega) e)
def InL (d:Nat) (b:List Int) (ps:List (List Int)) (v:List Int):Prop:=∃ w,Comb d ps w∧v=addV b w
def InS (d:Nat) (set:List S60) (v:List Int):Prop:=∃ l,l ∈ set∧InL d l.f0 l.f1 v
def okL (d:Nat) (l:S60):Prop:=okV d 1000000 l.f0∧okP d l.f1∧l.f1.length ≤ 1000000
theorem inL_sub {d:Nat} {b:List Int} {ps:List (List Int)} (hb:okV d 1000000 b) (hp:okP d ps) {v:List Int} (hv:v.length=d):InL d b ps v ↔ nnV (subV v b)∧Comb d ps (subV v b):=by
  constructor
  · rintro ⟨w,hw,rfl⟩
    have hl:=hw.len hp.okD
    rw [addV_comm,addV_sub (hl.trans hb.1.symm)]
    exact ⟨hw.nn hp.okD,hw⟩
  · rintro ⟨_,h⟩
    exact ⟨_,h,by rw [addV_comm,subV_add (hv.trans hb.1.symm)]⟩
theorem in_ev {d:Nat} (hd:d < 1000000) {l:S60} (hl:okL d l) {v:List Int} (hv:okV d 60 v):∃ b,Ev (fun k=>count_in.f k l.f0 l.f1 v) b∧(b=true ↔ InL d l.f0 l.f1 v):=by
  obtain ⟨hb,hp,hn⟩:=hl
  have hle:=less_ok (m:=0) (hv.1.trans hb.1.symm) hv.2 hb.2 (by rw [hv.1];exact hd)
  have hi:=inL_sub hb hp hv.1
  have start:∀ b,Ev (fun k=>if decide (nnV (subV v l.f0))=true then count_made.f k (subV v l.f0) (l.f1.filter fun x=>!zeroV x) else some false) b → Ev (fun k=>count_in.f k l.f0 l.f1 v) b:=fun b h=>by
    unfold count_in.f
    exact Ev.pos (by omega) (Ev.bind hle h)
  by_cases hnn:nnV (subV v l.f0)
  · have hz:∀ p,p ∈ (l.f1.filter fun x=>!zeroV x) → zeroV p=false:=fun p h=>by simpa using (List.mem_filter.1 h).2
    obtain ⟨b,e,i⟩:=made_ev d hd (l.f1.filter fun x=>!zeroV x) (fun p h=>hp p (List.mem_filter.1 h).1) hz _ (sub60 hv hb hnn)
    refine ⟨b,start b (Ev.pos (decide_eq_true hnn) e),?_⟩
    rw [i,hi,comb_filter hp.okD (fun x=>!zeroV x) (fun p h hf=>eq_zeroN (hp p h).1 ((zeroV_iff p).1 (by simpa using hf)))]
    exact ⟨fun h=>⟨hnn,h⟩,fun h=>h.2⟩
  · exact ⟨false,start false (Ev.neg (by simpa using hnn) (Ev.now _)),⟨fun h=>(by cases h),fun h=>absurd (hi.1 h).1 hnn⟩⟩
theorem has_go {d:Nat} (hd:d < 1000000) {v:List Int} (hv:okV d 60 v):∀ set:List S60,(∀ l,l ∈ set → okL d l) → ∃ b,Ev (fun k=>count_has.g k v set) b∧(b=true ↔ InS d set v)
  | [],_=>⟨false,Ev.now _,⟨fun h=>(by cases h),fun ⟨l,h,_⟩=>by simp at h⟩⟩
  | l :: set,h=>by
    obtain ⟨b,e,i⟩:=in_ev hd (h l (by simp)) hv
    obtain ⟨c,f,j⟩:=has_go hd hv set (fun x hx=>h x (by simp [hx]))
    refine ⟨b || c,Ev.bind e (Ev.bind f (Ev.now _)),?_⟩
    rw [Bool.or_eq_true,i,j]
    constructor
    · rintro (h|⟨x,hx,h⟩)
      · exact ⟨l,by simp,h⟩
      · exact ⟨x,by simp [hx],h⟩
    · rintro ⟨x,hx,h2⟩
      rcases List.mem_cons.1 hx with rfl|hx
      · exact .inl h2
      · exact .inr ⟨x,hx,h2⟩
theorem has_ev {d:Nat} (hd:d < 1000000) {v:List Int} (hv:okV d 60 v) {set:List S60} (h:∀ l,l ∈ set → okL d l):∃ b,Ev (fun k=>count_has.f k set v) b∧(b=true ↔ InS d set v):=has_go hd hv set h
theorem refSums_ev (d:Nat) (hd:d < 1000000):∀ (n:Nat) (v:List Int) (ps:List (List Int)),v.sum.toNat < n → okV d 1000000 v → okP d ps → ps.length < 1000000 → ∃ b,Ev (fun k=>bellpullref05_sums.f k v ps) b∧(b=true ↔ Comb d ps v)
  | 0,v,ps,hn,_,_,_=>by omega
  | n + 1,v,ps,hn,hv,hp,hlen=>by
    have IH:=refSums_ev d hd n
    have tv:=refTotal_ev hv.2 (by rw [hv.1];exact hd)
    by_cases h0:v.sum=0
    · have:v=zeroN d:=eq_zeroN hv.1 (zero_of_sum hv.2.nn h0)
      refine ⟨true,?_,⟨fun _=>this ▸ .zero,fun _=>rfl⟩⟩
      refine Ev.succ ?_
      simp only [bellpullref05_sums.f]
      exact Ev.bind tv (Ev.pos h0 (Ev.now _))
    · have vp:0 < v.sum:=by have:=sum_nn hv.2.nn;omega
      have loop:∀ (t pre:List (List Int)),okP d t → (pre ++ t).length < 1000000 → ∃ b,Ev (fun k=>bellpullref05_sums.l0 k v (pre ++ t) (pre.length:Int)) b∧(b=true ↔ Comb d t v):=fun t=>by
        induction t with
        | nil =>
          intro pre _ _
          refine ⟨false,Ev.succ ?_,⟨fun h=>(by cases h),fun h=>?_⟩⟩
          · simp only [bellpullref05_sums.l0]
            exact Ev.neg (by simp) (Ev.now _)
          · rw [comb_nil.1 h,sum_zeroN] at h0
            exact absurd rfl h0
        | cons p t ih =>
          intro pre hpt hlen
          obtain ⟨b,e,i⟩:=ih (pre ++ [p]) hpt.tail (by simp at hlen ⊢;omega)
          rw [← app_snoc,← len_snoc] at e
          have op:=hpt p (by simp)
          have tp:=refTotal_ev op.2 (by rw [op.1];exact hd)
          have ws:wrap64 ((pre.length:Int) + 1)=((pre.length + 1:Nat):Int):=wsucc (by simp at hlen;omega)
          by_cases hp0:p.sum=0
          · have pz:p=zeroN d:=eq_zeroN op.1 (zero_of_sum op.2.nn hp0)
            refine ⟨b,Ev.succ ?_,i.trans (comb_skip pz hpt.tail.okD).symm⟩
            simp only [bellpullref05_sums.l0,rdL1_app,ws]
            exact Ev.pos (lt_app _ _ _) (Ev.pos (by omega) (Ev.bind tp (Ev.pos hp0 e)))
          · have hl:v.length=p.length:=hv.1.trans op.1.symm
            have hle:=refLess_ev hl hv.2 op.2 (by rw [hv.1];exact hd)
            have hc:=comb_sub hpt.okD (v:=v) hv.1
            have pp:0 < p.sum:=by have:=sum_nn op.2.nn;omega
            have hdrop:(pre ++ p :: t).drop ((pre.length:Int)).toNat=p :: t:=by simp
            by_cases hnn:nnV (subV v p)
            · have hs:okV d 1000000 (subV v p):=by
                refine ⟨subV_len hv.1 op.1,fun x hx=>⟨hnn x hx,?_⟩⟩
                have:∀ (v w:List Int),inB 1000000 v → nnV w → ∀ x,x ∈ subV v w → x ≤ 1000000:=fun v=>by
                  induction v with
                  | nil=>intro w _ _ x hx;simp [subV] at hx
                  | cons a v ih =>
                    intro w hv hw x hx
                    match w,hw,hx with
                    | b :: w,hw,hx =>
                      rw [subV] at hx
                      rcases List.mem_cons.1 hx with rfl|hx
                      · have:=hv a (by simp)
                        have:=hw b (by simp)
                        omega
                      · exact ih w (fun z hz=>hv z (by simp [hz])) (fun z hz=>hw z (by simp [hz])) x hx
                exact this v p hv.2 op.2.nn x hx
              have hsum:=sum_subV hl
              have:=sum_nn hs.2.nn
              obtain ⟨c,f,j⟩:=IH (subV v p) (p :: t) (by omega) hs hpt (by simp at hlen ⊢;omega)
              refine ⟨if c=true then true else b,Ev.succ ?_,?_⟩
              · simp only [bellpullref05_sums.l0,rdL1_app,ws]
                refine Ev.pos (lt_app _ _ _) (Ev.pos (by omega) (Ev.bind tp (Ev.neg hp0 (Ev.bind hle (Ev.pos (decide_eq_true hnn) (Ev.pos (by simp;omega) ?_))))))
                rw [hdrop]
                refine Ev.bind f ?_
                cases c with
                | true=>exact Ev.pos rfl (Ev.now _)
                | false=>exact Ev.neg (by simp) e
              · rw [hc,← j,← i]
                cases c <;> simp
            · refine ⟨b,Ev.succ ?_,?_⟩
              · simp only [bellpullref05_sums.l0,rdL1_app,ws]
                exact Ev.pos (lt_app _ _ _) (Ev.pos (by omega) (Ev.bind tp (Ev.neg hp0 (Ev.bind hle (Ev.neg (by simpa using hnn) e)))))
              · rw [i,hc]
                exact ⟨.inl,fun h=>h.resolve_right (fun h=>hnn (h.nn hpt.okD))⟩
      obtain ⟨b,e,i⟩:=loop ps [] hp hlen
      refine ⟨b,?_,i⟩
      refine Ev.succ ?_
      simp only [bellpullref05_sums.f]
      exact Ev.bind tv (Ev.neg h0 e)
theorem refHas_go {d:Nat} (hd:d < 1000000) {v:List Int} (hv:okV d 60 v):∀ (t pre:List S60),(∀ l,l ∈ t → okL d l∧l.f1.length < 1000000) → (pre ++ t).length < 1000000 → ∃ b,Ev (fun k=>bellpullref05_Has.l0 k (pre ++ t) v (pre.length:Int)) b∧(b=true ↔ InS d t v)
  | [],pre,_,_=>⟨false,by
      refine Ev.succ ?_
      simp only [bellpullref05_Has.l0]
      exact Ev.neg (by simp) (Ev.now _),⟨fun h=>(by cases h),fun ⟨l,h,_⟩=>by simp at h⟩⟩
  | l :: t,pre,h,hlen=>by
    obtain ⟨b,e,i⟩:=refHas_go hd hv t (pre ++ [l]) (fun x hx=>h x (by simp [hx])) (by simp at hlen ⊢;omega)
    rw [← app_snoc,← len_snoc] at e
    obtain ⟨⟨hb,hp,hn⟩,hn2⟩:=h l (by simp)
    have ws:wrap64 ((pre.length:Int) + 1)=((pre.length + 1:Nat):Int):=wsucc (by simp at hlen;omega)
    have hle:=refLess_ev (hv.1.trans hb.1.symm) (hv.mono (by decide)).2 hb.2 (by rw [hv.1];exact hd)
    have hi:=inL_sub hb hp hv.1
    have hs:InS d (l :: t) v ↔ InL d l.f0 l.f1 v ∨ InS d t v:=by
      constructor
      · rintro ⟨x,hx,h2⟩
        rcases List.mem_cons.1 hx with rfl|hx
        · exact .inl h2
        · exact .inr ⟨x,hx,h2⟩
      · rintro (h|⟨x,hx,h⟩)
        · exact ⟨l,by simp,h⟩
        · exact ⟨x,by simp [hx],h⟩
    by_cases hnn:nnV (subV v l.f0)
    · obtain ⟨c,f,j⟩:=refSums_ev d hd _ (subV v l.f0) l.f1 (Nat.lt_succ_self _) ((sub60 hv hb hnn).mono (by decide)) hp hn2
      refine ⟨if c=true then true else b,Ev.succ ?_,?_⟩
      · simp only [bellpullref05_Has.l0,rdT60_app,ws]
        refine Ev.pos (lt_app _ _ _) (Ev.pos (by omega) (Ev.bind hle (Ev.pos (decide_eq_true hnn) (Ev.bind f ?_))))
        cases c with
        | true=>exact Ev.pos rfl (Ev.now _)
        | false=>exact Ev.neg (by simp) e
      · rw [hs,hi,← j,← i]
        cases c <;> simp [hnn]
    · refine ⟨b,Ev.succ ?_,?_⟩
      · simp only [bellpullref05_Has.l0,rdT60_app,ws]
        exact Ev.pos (lt_app _ _ _) (Ev.pos (by omega) (Ev.bind hle (Ev.neg (by simpa using hnn) e)))
      · rw [hs,hi,i]
        exact ⟨.inr,fun h=>h.resolve_left (fun h=>hnn h.1)⟩
theorem refHas_ev {d:Nat} (hd:d < 1000000) {v:List Int} (hv:okV d 60 v) {set:List S60} (h:∀ l,l ∈ set → okL d l∧l.f1.length < 1000000) (hl:set.length < 1000000):∃ b,Ev (fun k=>bellpullref05_Has.f k set v) b∧(b=true ↔ InS d set v):=refHas_go hd hv set [] h hl
end Go.Proofs.Ytkonljiembcdlaa.Pure
