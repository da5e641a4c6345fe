-- Written by pr2.py, a program of this session's, for this claim (through the kit's print).
import Derived.Test.YtgfnmimfoicmmaaPMx0
namespace Go.Proofs.Ytgfnmimfoicmmaa.PM
open Go.Proofs.MyWords Go.RowKit Go.Proofs.YtgfnmimfoicmmaaW.PrintWords Go.Proofs.YtgfnmimfoicmmaaW.PrintLast Go.Proofs.YtgfnmimfoicmmaaW.PrintMore
attribute [local go_sem] max2_int min2_int max_two min_two max_three min_three max_four min_four   -- for this text's walks alone
set_option linter.unusedVariables false
set_option linter.unusedSimpArgs false

attribute [local go_sem] idx67_0 idx67_1 idx67_2 idx67_3
attribute [local go_sem] eqGuard_slices eqlnil36 neqnil36
/-! ### norm_of: function 48 -/
def norm_of.f (a0_0:Int) (a0_1:Int) (a0_2:Int) (a0_3:Int):Option (Int × Int × Int × Int):=some (a0_0,a0_1,a0_2,a0_3)
set_option maxHeartbeats 8000000 in
set_option maxRecDepth 100000 in
theorem norm_of.calls (D:Int) (E:Int) (F:Int) (G:Int) (V:Int) (X:Int) (Y:Int) (Z:Int) (w:World) (h:norm_of.f D E F G=some (V,X,Y,Z)) :
    Calls Try.prog 48 #[.agg #[.int .i64 D,.int .i64 E,.int .i64 F,.int .i64 G]] w fun e w'=>e=.returned (.agg #[.int .i64 V,.int .i64 X,.int .i64 Y,.int .i64 Z])∧Below w.heap.size w w':=by
 have b7:=Try.underlying23;have b8:=Try.underlying67;have J:=mk0 (Below.refl w.heap.size w);have H:(some (D,E,F,G))=some (V,X,Y,Z):=h;clear h;simp only [Option.some.injEq,Prod.mk.injEq] at H;obtain ⟨rfl,rfl,rfl,rfl⟩:=H;go_enter Try.func48,Try.ntmps48;go_wp2_with (first|((with_reducible refine gate_dst (N:=1) rfl ?_);refine box_event ?hg (N:=1) ?hd (cs:=#[.int .i64 D,.int .i64 E,.int .i64 F,.int .i64 G]) (t:=23) ?hr ?_;(case hd=>rfl);(case hg=>rfl);(case hr=>first|(go_simp;done)|(go_simp;rfl));intro b6 hg w2 I hb;have B:=mk0 (I);have O:=szw hg J;have Q:=O;replace J:=bst J hb;clear hb I hg)|((with_reducible refine gate_dst (N:=2) rfl ?_);refine box_event ?hg (N:=2) ?hd (cs:=#[.int .i64 0,.int .i64 0,.int .i64 0,.int .i64 0]) (t:=67) ?hr ?_;(case hd=>rfl);(case hg=>rfl);(case hr=>first|(go_simp;done)|(go_simp;rfl));intro R hg w3 I hb;have C:=mk0 (I);have T:=szw hg J;have U:=T;have L:=nlt hg B;have M:=ngt hg B;replace B:=bkb B hb;replace J:=bst J hb;clear hb I hg;have b9:=L.1;have c0:=M.1;have a0:=q0_ B;have a1:=q1_ B;have a2:=q2_ B;have a3:=q3_ B;have a4:=blk_frozen B.1 0;have a5:=blk_frozen B.1 1;have a6:=blk_frozen B.1 2;have a7:=blk_frozen B.1 3;have a8:=q0_ C;have a9:=q1_ C;have b0:=q2_ C;have b1:=q3_ C;have b2:=blk_frozen C.1 0;have b3:=blk_frozen C.1 1;have b4:=blk_frozen C.1 2;have b5:=blk_frozen C.1 3));refine bodyPost_ret (results_cell_row rfl _ _ R 67 #[.int .i64 D,.int .i64 E,.int .i64 F,.int .i64 G] (0,0) _ rfl (by refine blk_put (cs:=#[.int .i64 D,.int .i64 E,.int .i64 F,.int .i64 0]) ?_ 3 _ rfl;refine blk_put (cs:=#[.int .i64 D,.int .i64 E,.int .i64 0,.int .i64 0]) ?_ 2 _ rfl;refine blk_put (cs:=#[.int .i64 D,.int .i64 0,.int .i64 0,.int .i64 0]) ?_ 1 _ rfl;refine blk_put (cs:=#[.int .i64 0,.int .i64 0,.int .i64 0,.int .i64 0]) ?_ 0 _ rfl;exact C.1) Try.underlying67 rfl (by kernel_rfl)) rfl ?_;exact ⟨by first|rfl|(simp [errW_none,errW_some] <;> rfl)|(simp [*,errW_none,errW_some] <;> rfl),by repeat (first|(with_reducible first|exact J.1|apply below_alloc|apply pw_below_drewN|apply below_drew1|refine below_set ?_ Q.1|refine below_set ?_ U.1)|exact J.1)⟩
/-! ### norm_quat_integral: function 68 -/
def norm_quat_integral.l0:Nat → Int → Int → Int → Int → Int → Int → Int → Int → Int → Option (Bool)
  | 0,_,_,_,_,_,_,_,_,_=>none
  | k + 1,x6,x992,x993,x994,x995,x104000,x104001,x104002,x104003=>if x6 < 4 then (if x6=0 then (if (Go.bits .and .i64 x995 1)=(Go.bits .and .i64 x104000 1) then (norm_quat_integral.l0 k 1 x992 x993 x994 x995 x104000 x104001 x104002 x104003) else (some false)) else (if x6=1 then (if (Go.bits .and .i64 x994 1)=(Go.bits .and .i64 x104000 1) then (norm_quat_integral.l0 k 2 x992 x993 x994 x995 x104000 x104001 x104002 x104003) else (some false)) else (if x6=2 then (if (Go.bits .and .i64 x993 1)=(Go.bits .and .i64 x104000 1) then (norm_quat_integral.l0 k 3 x992 x993 x994 x995 x104000 x104001 x104002 x104003) else (some false)) else (if x6=3 then (if (Go.bits .and .i64 x992 1)=(Go.bits .and .i64 x104000 1) then (norm_quat_integral.l0 k 4 x992 x993 x994 x995 x104000 x104001 x104002 x104003) else (some false)) else (none))))) else (some true)
def norm_quat_integral.f (k:Nat) (a0_0:Int) (a0_1:Int) (a0_2:Int) (a0_3:Int):Option (Bool):=norm_quat_integral.l0 k 0 a0_3 a0_2 a0_1 a0_0 a0_0 a0_1 a0_2 a0_3
theorem norm_quat_integral.mono_l:∀ k,(∀ y0 y1 y2 y3 y4 y5 y6 y7 y8,LeO (norm_quat_integral.l0 k y0 y1 y2 y3 y4 y5 y6 y7 y8) (norm_quat_integral.l0 (k + 1) y0 y1 y2 y3 y4 y5 y6 y7 y8))
  | 0=>fun _ _ _ _ _ _ _ _ _ r h=>by simp [norm_quat_integral.l0] at h
  | k + 1=>by
    have ih0:=norm_quat_integral.mono_l k
    · intro y0 y1 y2 y3 y4 y5 y6 y7 y8
      unfold norm_quat_integral.l0
      with_reducible repeat' first|exact ih0 _ _ _ _ _ _ _ _ _|exact LeO.refl _|exact LeO.none _|refine LeO.ite ?_ ?_|refine LeO.bind ?_ (fun _=>?_)
theorem norm_quat_integral.mono:∀ a0 a1 a2 a3 k,LeO (norm_quat_integral.f k a0 a1 a2 a3) (norm_quat_integral.f (k + 1) a0 a1 a2 a3):=by
  intro a0 a1 a2 a3 k
  have ih0:=norm_quat_integral.mono_l k
  unfold norm_quat_integral.f
  with_reducible repeat' first|exact ih0 _ _ _ _ _ _ _ _ _|exact LeO.refl _|exact LeO.none _|refine LeO.ite ?_ ?_|refine LeO.bind ?_ (fun _=>?_)
set_option maxHeartbeats 8000000 in
set_option maxRecDepth 100000 in
theorem norm_quat_integral.calls (k:Nat) (C:Int) (D:Int) (E:Int) (F:Int) (r:Bool) (w:World) (h:norm_quat_integral.f k C D E F=some r) :
    Calls Try.prog 68 #[.agg #[.int .i64 C,.int .i64 D,.int .i64 E,.int .i64 F]] w fun e w'=>e=.returned (.bool r)∧Below w.heap.size w w':=by
 have g2:=Try.underlying67;have I:=mk0 (Below.refl w.heap.size w);have H:(norm_quat_integral.l0 k 0 F E D C C D E F)=some r:=h;clear h;have H':=mk0 H;clear H;go_enter Try.func68,Try.ntmps68;go_wp2_with (first|((with_reducible refine gate_dst (N:=1) rfl ?_);refine box_event ?hg (N:=1) ?hd (cs:=#[.int .i64 C,.int .i64 D,.int .i64 E,.int .i64 F]) (t:=67) ?hr ?_;(case hd=>rfl);(case hg=>rfl);(case hr=>first|(go_simp;done)|(go_simp;rfl));intro a0 hg w2 O hb;have B:=mk0 (O);have a1:=szw hg I;have G:=a1;replace I:=bst I hb;clear hb O hg;have Q:=q0_ B;have R:=q1_ B;have T:=q2_ B;have U:=q3_ B;have V:=blk_frozen B.1 0;have X:=blk_frozen B.1 1;have Y:=blk_frozen B.1 2;have Z:=blk_frozen B.1 3));(try simp only [Act.put,s0_,s1_,s2_])
 go_loopg [6] k (fun kq v6 w'=>∃ (J:Int),v6=.int .i64 J∧Aside0 (norm_quat_integral.l0 kq J F E D C C D E F=some r)∧Aside0 (kq ≤ k)∧Aside0 (Q4_ w' a0 C D E F 67)∧Aside0 (Below w.heap.size w w'))
 case atStart=>exact ⟨(0),(by first|rfl|(simp;done)|(simp [*];done)),H',⟨Nat.le_refl _⟩,⟨by exact B.1⟩,⟨by repeat (first|(with_reducible first|exact I.1|apply below_alloc|apply pw_below_drewN|apply below_drew1|refine below_set ?_ G.1)|exact I.1)⟩⟩
 case round =>
  clear H';try clear p2
  try clear Q
  try clear R
  try clear T
  try clear U
  try clear V
  try clear X
  try clear Y
  try clear Z
  obtain ⟨J,rfl,HA,L,B,I⟩:=hrel;cases gk with
  | zero=>exact absurd HA.1 (by simp [norm_quat_integral.l0])
  | succ k1 =>
   have H:=HA.1;clear HA;simp only [norm_quat_integral.l0] at H
   by_cases c4:J < 4
   ·
    rw [if_pos c4] at H;have c4b0:decide (J < 4)=true:=decide_eq_true c4;clear c4
    by_cases c5:J=0
    ·
     subst c5;have M:(if (Go.bits .and .i64 C 1)=(Go.bits .and .i64 C 1) then (norm_quat_integral.l0 k1 1 F E D C C D E F) else (some false))=some r:=by (try rw [if_pos rfl] at H);first|exact H|simpa using H
     clear H;have H:=M;clear M;replace H:(norm_quat_integral.l0 k1 1 F E D C C D E F)=some r:=by first|exact H|(rw [if_pos rfl] at H;exact H)|(simpa using H)
     have H':=mk0 H;clear H;have e6:=q0_ B;have e7:=q1_ B;have e8:=q2_ B;have e9:=q3_ B;have f0:=blk_frozen B.1 0;have f1:=blk_frozen B.1 1;have f2:=blk_frozen B.1 2;have f3:=blk_frozen B.1 3;go_wp2;go_roundg k1
     case measure=>have:=L.1;omega
     case rel=>exact ⟨(1),(by first|rfl|(simp;done)|(simp [*];done)),H',⟨by have:=L.1;omega⟩,⟨by exact B.1⟩,⟨by repeat (first|(with_reducible first|exact I.1|apply below_alloc|apply pw_below_drewN|apply below_drew1|refine below_set ?_ G.1)|exact I.1)⟩⟩
    ·
     rw [if_neg c5] at H
     by_cases c7:J=1
     ·
      subst c7;have M:(if (Go.bits .and .i64 D 1)=(Go.bits .and .i64 C 1) then (norm_quat_integral.l0 k1 2 F E D C C D E F) else (some false))=some r:=by (try rw [if_pos rfl] at H);first|exact H|simpa using H
      clear H;have H:=M;clear M
      by_cases c8:(Go.bits .and .i64 D 1)=(Go.bits .and .i64 C 1)
      ·
       rw [if_pos c8] at H;have c8b0:((Go.bits .and .i64 D 1) == (Go.bits .and .i64 C 1))=true:=beq_iff_eq.mpr c8;have c8b1:((Go.bits .and .i64 D 1) != (Go.bits .and .i64 C 1))=false:=bne_eq_false_iff_eq.mpr c8;clear c8;have H':=mk0 H;clear H;have f4:=q0_ B;have f5:=q1_ B;have f6:=q2_ B;have f7:=q3_ B;have f8:=blk_frozen B.1 0;have f9:=blk_frozen B.1 1;have g0:=blk_frozen B.1 2;have g1:=blk_frozen B.1 3;go_wp2;go_roundg k1
       case measure=>have:=L.1;omega
       case rel=>exact ⟨(2),(by first|rfl|(simp;done)|(simp [*];done)),H',⟨by have:=L.1;omega⟩,⟨by exact B.1⟩,⟨by repeat (first|(with_reducible first|exact I.1|apply below_alloc|apply pw_below_drewN|apply below_drew1|refine below_set ?_ G.1)|exact I.1)⟩⟩
      ·
       rw [if_neg c8] at H;have c8b0:((Go.bits .and .i64 D 1) == (Go.bits .and .i64 C 1))=false:=beq_eq_false_iff_ne.mpr c8;have c8b1:((Go.bits .and .i64 D 1) != (Go.bits .and .i64 C 1))=true:=bne_iff_ne.mpr c8;obtain rfl:=Option.some.inj H;have a2:=q0_ B;have a3:=q1_ B;have a4:=q2_ B;have a5:=q3_ B;have a6:=blk_frozen B.1 0;have a7:=blk_frozen B.1 1;have a8:=blk_frozen B.1 2;have a9:=blk_frozen B.1 3;go_wp2;go_ret;exact ⟨by first|rfl|(simp [errW_none,errW_some] <;> rfl)|(simp [*,errW_none,errW_some] <;> rfl),by repeat (first|(with_reducible first|exact I.1|apply below_alloc|apply pw_below_drewN|apply below_drew1|refine below_set ?_ G.1)|exact I.1)⟩
     ·
      rw [if_neg c7] at H
      by_cases c11:J=2
      ·
       subst c11;have M:(if (Go.bits .and .i64 E 1)=(Go.bits .and .i64 C 1) then (norm_quat_integral.l0 k1 3 F E D C C D E F) else (some false))=some r:=by (try rw [if_pos rfl] at H);first|exact H|simpa using H
       clear H;have H:=M;clear M
       by_cases c12:(Go.bits .and .i64 E 1)=(Go.bits .and .i64 C 1)
       ·
        rw [if_pos c12] at H;have c12b0:((Go.bits .and .i64 E 1) == (Go.bits .and .i64 C 1))=true:=beq_iff_eq.mpr c12;have c12b1:((Go.bits .and .i64 E 1) != (Go.bits .and .i64 C 1))=false:=bne_eq_false_iff_eq.mpr c12;clear c12;have H':=mk0 H;clear H;have b0:=q0_ B;have b1:=q1_ B;have b2:=q2_ B;have b3:=q3_ B;have b4:=blk_frozen B.1 0;have b5:=blk_frozen B.1 1;have b6:=blk_frozen B.1 2;have b7:=blk_frozen B.1 3;go_wp2;go_roundg k1
        case measure=>have:=L.1;omega
        case rel=>exact ⟨(3),(by first|rfl|(simp;done)|(simp [*];done)),H',⟨by have:=L.1;omega⟩,⟨by exact B.1⟩,⟨by repeat (first|(with_reducible first|exact I.1|apply below_alloc|apply pw_below_drewN|apply below_drew1|refine below_set ?_ G.1)|exact I.1)⟩⟩
       ·
        rw [if_neg c12] at H;have c12b0:((Go.bits .and .i64 E 1) == (Go.bits .and .i64 C 1))=false:=beq_eq_false_iff_ne.mpr c12;have c12b1:((Go.bits .and .i64 E 1) != (Go.bits .and .i64 C 1))=true:=bne_iff_ne.mpr c12;obtain rfl:=Option.some.inj H;have b8:=q0_ B;have b9:=q1_ B;have c0:=q2_ B;have c1:=q3_ B;have c2:=blk_frozen B.1 0;have c3:=blk_frozen B.1 1;have c6:=blk_frozen B.1 2;have c9:=blk_frozen B.1 3;go_wp2;go_ret;exact ⟨by first|rfl|(simp [errW_none,errW_some] <;> rfl)|(simp [*,errW_none,errW_some] <;> rfl),by repeat (first|(with_reducible first|exact I.1|apply below_alloc|apply pw_below_drewN|apply below_drew1|refine below_set ?_ G.1)|exact I.1)⟩
      ·
       rw [if_neg c11] at H
       by_cases c15:J=3
       ·
        subst c15;have M:(if (Go.bits .and .i64 F 1)=(Go.bits .and .i64 C 1) then (norm_quat_integral.l0 k1 4 F E D C C D E F) else (some false))=some r:=by (try rw [if_pos rfl] at H);first|exact H|simpa using H
        clear H;have H:=M;clear M
        by_cases c16:(Go.bits .and .i64 F 1)=(Go.bits .and .i64 C 1)
        ·
         rw [if_pos c16] at H;have c16b0:((Go.bits .and .i64 F 1) == (Go.bits .and .i64 C 1))=true:=beq_iff_eq.mpr c16;have c16b1:((Go.bits .and .i64 F 1) != (Go.bits .and .i64 C 1))=false:=bne_eq_false_iff_eq.mpr c16;clear c16;have H':=mk0 H;clear H;have d0:=q0_ B;have d1:=q1_ B;have d2:=q2_ B;have d3:=q3_ B;have d4:=blk_frozen B.1 0;have d5:=blk_frozen B.1 1;have d6:=blk_frozen B.1 2;have d7:=blk_frozen B.1 3;go_wp2;go_roundg k1
         case measure=>have:=L.1;omega
         case rel=>exact ⟨(4),(by first|rfl|(simp;done)|(simp [*];done)),H',⟨by have:=L.1;omega⟩,⟨by exact B.1⟩,⟨by repeat (first|(with_reducible first|exact I.1|apply below_alloc|apply pw_below_drewN|apply below_drew1|refine below_set ?_ G.1)|exact I.1)⟩⟩
        ·
         rw [if_neg c16] at H;have c16b0:((Go.bits .and .i64 F 1) == (Go.bits .and .i64 C 1))=false:=beq_eq_false_iff_ne.mpr c16;have c16b1:((Go.bits .and .i64 F 1) != (Go.bits .and .i64 C 1))=true:=bne_iff_ne.mpr c16;obtain rfl:=Option.some.inj H;have d8:=q0_ B;have d9:=q1_ B;have e0:=q2_ B;have e1:=q3_ B;have e2:=blk_frozen B.1 0;have e3:=blk_frozen B.1 1;have e4:=blk_frozen B.1 2;have e5:=blk_frozen B.1 3;go_wp2;go_ret;exact ⟨by first|rfl|(simp [errW_none,errW_some] <;> rfl)|(simp [*,errW_none,errW_some] <;> rfl),by repeat (first|(with_reducible first|exact I.1|apply below_alloc|apply pw_below_drewN|apply below_drew1|refine below_set ?_ G.1)|exact I.1)⟩
       ·
        rw [if_neg c15] at H;exact absurd H (by simp)
   ·
    rw [if_neg c4] at H;have c4b0:decide (J < 4)=false:=decide_eq_false c4;clear c4;obtain rfl:=Option.some.inj H;go_wp2;go_ret;exact ⟨by first|rfl|(simp [errW_none,errW_some] <;> rfl)|(simp [*,errW_none,errW_some] <;> rfl),by repeat (first|(with_reducible first|exact I.1|apply below_alloc|apply pw_below_drewN|apply below_drew1|refine below_set ?_ G.1)|exact I.1)⟩
/-! ### slices_Min_int_int: function 69 -/
def slices_Min_int_int.l0:Nat → List Int → Int → Int → Option (Int)
  | 0,_,_,_=>none
  | k + 1,x0,x3,x4=>if x4 < (x0.length:Int) then (if 0 ≤ x4 then (slices_Min_int_int.l0 k x0 (mn x3 (rd x0 x4)) (wrap64 (x4 + 1))) else (none)) else (some x3)
def slices_Min_int_int.f (k:Nat) (l0:List Int):Option (Int):=if (l0.length:Int) < 1 then (none) else (if 0 < (l0.length:Int) then (slices_Min_int_int.l0 k l0 (rd l0 0) 1) else (none))
theorem slices_Min_int_int.mono_l:∀ k,(∀ y0 y1 y2,LeO (slices_Min_int_int.l0 k y0 y1 y2) (slices_Min_int_int.l0 (k + 1) y0 y1 y2))
  | 0=>fun _ _ _ r h=>by simp [slices_Min_int_int.l0] at h
  | k + 1=>by
    have ih0:=slices_Min_int_int.mono_l k
    · intro y0 y1 y2
      unfold slices_Min_int_int.l0
      with_reducible repeat' first|exact ih0 _ _ _|exact LeO.refl _|exact LeO.none _|refine LeO.ite ?_ ?_|refine LeO.bind ?_ (fun _=>?_)
theorem slices_Min_int_int.mono:∀ a0 k,LeO (slices_Min_int_int.f k a0) (slices_Min_int_int.f (k + 1) a0):=by
  intro a0 k
  have ih0:=slices_Min_int_int.mono_l k
  unfold slices_Min_int_int.f
  with_reducible repeat' first|exact ih0 _ _ _|exact LeO.refl _|exact LeO.none _|refine LeO.ite ?_ ?_|refine LeO.bind ?_ (fun _=>?_)
set_option maxHeartbeats 8000000 in
set_option maxRecDepth 100000 in
theorem slices_Min_int_int.calls (k:Nat) (A0:Option Addr) (c0:Nat) (D:List Int) (r:Int) (w:World) (U:Kd.C (Kd.int .i64) w A0 D.length D) (V:D.length ≤ c0) (h:slices_Min_int_int.f k D=some r) :
    Calls Try.prog 69 #[.slice A0 D.length c0] w fun e w'=>e=.returned (.int .i64 r)∧Below w.heap.size w w':=by
 have X:=mk0 U;have a7:=mk0 V;clear U V;have M:=mk0 (Below.refl w.heap.size w);have H:(if (D.length:Int) < 1 then (none) else (if 0 < (D.length:Int) then (slices_Min_int_int.l0 k D (rd D 0) 1) else (none)))=some r:=h;clear h
 by_cases c2:(D.length:Int) < 1
 ·
  rw [if_pos c2] at H;exact absurd H (by simp)
 ·
  rw [if_neg c2] at H;have c2b0:decide ((D.length:Int) < 1)=false:=decide_eq_false c2;have c2b1:decide (D.length < 1)=false:=decide_eq_false (by omega);clear c2
  by_cases c3:0 < (D.length:Int)
  ·
   rw [if_pos c3] at H;have c3b0:decide (0 < (D.length:Int))=true:=decide_eq_true c3;have c3b1:decide (0 < D.length)=true:=decide_eq_true (by omega);clear c3;have H':=mk0 H;clear H;have I:0 ≤ (0:Int):=(by omega)
   have J:0 < (D.length:Int):=of_decide_eq_true (by first|(with_reducible assumption)|assumption);obtain ⟨R,Z,E⟩:=Kd.at_int X.1 0 I J;cases Z;have a3:(0 < D.length)=True:=eq_true (by omega);(try rw [show ((0:Int)).toNat=0 from rfl] at E);(try rw [Addr.add_zero'] at E);replace I:=eq_true I;replace J:=eq_true J;go_enter Try.func69,Try.ntmps69;go_wp2
   go_loopg [3,4] k (fun kq v3 v4 w'=>∃ (F:Int) (B:Int),v3=.int .i64 F∧v4=.int .i64 B∧Aside0 (slices_Min_int_int.l0 kq D F B=some r)∧Aside0 (kq ≤ k)∧Aside0 (Below w.heap.size w w'))
   case atStart=>exact ⟨(rd D 0),(1),(by first|rfl|(simp;done)|(simp [*];done)),(by first|rfl|(simp;done)|(simp [*];done)),H',⟨Nat.le_refl _⟩,⟨by repeat (first|(with_reducible first|exact M.1|apply below_alloc|apply pw_below_drewN|apply below_drew1)|exact M.1)⟩⟩
   case round =>
    clear H';try clear p1
    try clear q1
    try clear hx1
    try clear qi1
    try clear c2
    try clear c2b0
    try clear c2b1
    try clear p2
    try clear c3
    try clear c3b0
    try clear c3b1
    try clear E
    try clear I
    try clear J
    obtain ⟨F,B,rfl,rfl,HA,Y,M⟩:=hrel;cases gk with
    | zero=>exact absurd HA.1 (by simp [slices_Min_int_int.l0])
    | succ k1 =>
     have H:=HA.1;clear HA;simp only [slices_Min_int_int.l0] at H
     by_cases c4:B < (D.length:Int)
     ·
      rw [if_pos c4] at H;have c4b0:decide (B < (D.length:Int))=true:=decide_eq_true c4;clear c4
      by_cases c5:0 ≤ B
      ·
       rw [if_pos c5] at H;have c5b0:decide (0 ≤ B)=true:=decide_eq_true c5;clear c5;obtain ⟨Q,L⟩:∃ j_:Int,(mn F (rd D B))=j_:=⟨_,rfl⟩
       replace H:(slices_Min_int_int.l0 k1 D Q (wrap64 (B + 1)))=some r:=by first|(rw [L] at H;exact H)|(simp only [L] at H ⊢;exact H)
       have a4:(if (rd D B) < F then (rd D B) else F)=Q:=L;have H':=mk0 H;clear H;have N:0 ≤ (B:Int):=of_decide_eq_true (by first|(with_reducible assumption)|assumption);have O:B < (D.length:Int):=of_decide_eq_true (by first|(with_reducible assumption)|assumption);obtain ⟨T,a0,G⟩:=Kd.at_int X.1 B N O;obtain rfl:R=T:=(by injection a0)
       replace G:=(M.1.cell (World.block_lt_of_cell? w _ G)).trans G;replace N:=eq_true N;replace O:=eq_true O;go_wp2;go_roundg k1
       case measure=>have:=Y.1;omega
       case rel=>exact ⟨(Q),(wrap64 (B + 1)),(by first|rfl|(simp;done)|(simp only [← L] <;> (first|rfl|simp))|(simp [*];done)),(by first|rfl|(simp;done)|(simp [*];done)),H',⟨by have:=Y.1;omega⟩,⟨by repeat (first|(with_reducible first|exact M.1|apply below_alloc|apply pw_below_drewN|apply below_drew1)|exact M.1)⟩⟩
      ·
       rw [if_neg c5] at H;exact absurd H (by simp)
     ·
      rw [if_neg c4] at H;have c4b0:decide (B < (D.length:Int))=false:=decide_eq_false c4;clear c4;obtain rfl:=Option.some.inj H;go_wp2;go_ret;exact ⟨by first|rfl|(simp [errW_none,errW_some] <;> rfl)|(simp [*,errW_none,errW_some] <;> rfl),by repeat (first|(with_reducible first|exact M.1|apply below_alloc|apply pw_below_drewN|apply below_drew1)|exact M.1)⟩
  ·
   rw [if_neg c3] at H;exact absurd H (by simp)
/-! ### slices_Max_int_int: function 70 -/
def slices_Max_int_int.l0:Nat → List Int → Int → Int → Option (Int)
  | 0,_,_,_=>none
  | k + 1,x0,x3,x4=>if x4 < (x0.length:Int) then (if 0 ≤ x4 then (slices_Max_int_int.l0 k x0 (mx x3 (rd x0 x4)) (wrap64 (x4 + 1))) else (none)) else (some x3)
def slices_Max_int_int.f (k:Nat) (l0:List Int):Option (Int):=if (l0.length:Int) < 1 then (none) else (if 0 < (l0.length:Int) then (slices_Max_int_int.l0 k l0 (rd l0 0) 1) else (none))
theorem slices_Max_int_int.mono_l:∀ k,(∀ y0 y1 y2,LeO (slices_Max_int_int.l0 k y0 y1 y2) (slices_Max_int_int.l0 (k + 1) y0 y1 y2))
  | 0=>fun _ _ _ r h=>by simp [slices_Max_int_int.l0] at h
  | k + 1=>by
    have ih0:=slices_Max_int_int.mono_l k
    · intro y0 y1 y2
      unfold slices_Max_int_int.l0
      with_reducible repeat' first|exact ih0 _ _ _|exact LeO.refl _|exact LeO.none _|refine LeO.ite ?_ ?_|refine LeO.bind ?_ (fun _=>?_)
theorem slices_Max_int_int.mono:∀ a0 k,LeO (slices_Max_int_int.f k a0) (slices_Max_int_int.f (k + 1) a0):=by
  intro a0 k
  have ih0:=slices_Max_int_int.mono_l k
  unfold slices_Max_int_int.f
  with_reducible repeat' first|exact ih0 _ _ _|exact LeO.refl _|exact LeO.none _|refine LeO.ite ?_ ?_|refine LeO.bind ?_ (fun _=>?_)
set_option maxHeartbeats 8000000 in
set_option maxRecDepth 100000 in
theorem slices_Max_int_int.calls (k:Nat) (A0:Option Addr) (c0:Nat) (D:List Int) (r:Int) (w:World) (U:Kd.C (Kd.int .i64) w A0 D.length D) (V:D.length ≤ c0) (h:slices_Max_int_int.f k D=some r) :
    Calls Try.prog 70 #[.slice A0 D.length c0] w fun e w'=>e=.returned (.int .i64 r)∧Below w.heap.size w w':=by
 have X:=mk0 U;have a7:=mk0 V;clear U V;have M:=mk0 (Below.refl w.heap.size w);have H:(if (D.length:Int) < 1 then (none) else (if 0 < (D.length:Int) then (slices_Max_int_int.l0 k D (rd D 0) 1) else (none)))=some r:=h;clear h
 by_cases c2:(D.length:Int) < 1
 ·
  rw [if_pos c2] at H;exact absurd H (by simp)
 ·
  rw [if_neg c2] at H;have c2b0:decide ((D.length:Int) < 1)=false:=decide_eq_false c2;have c2b1:decide (D.length < 1)=false:=decide_eq_false (by omega);clear c2
  by_cases c3:0 < (D.length:Int)
  ·
   rw [if_pos c3] at H;have c3b0:decide (0 < (D.length:Int))=true:=decide_eq_true c3;have c3b1:decide (0 < D.length)=true:=decide_eq_true (by omega);clear c3;have H':=mk0 H;clear H;have I:0 ≤ (0:Int):=(by omega)
   have J:0 < (D.length:Int):=of_decide_eq_true (by first|(with_reducible assumption)|assumption);obtain ⟨R,Z,E⟩:=Kd.at_int X.1 0 I J;cases Z;have a3:(0 < D.length)=True:=eq_true (by omega);(try rw [show ((0:Int)).toNat=0 from rfl] at E);(try rw [Addr.add_zero'] at E);replace I:=eq_true I;replace J:=eq_true J;go_enter Try.func70,Try.ntmps70;go_wp2
   go_loopg [3,4] k (fun kq v3 v4 w'=>∃ (F:Int) (B:Int),v3=.int .i64 F∧v4=.int .i64 B∧Aside0 (slices_Max_int_int.l0 kq D F B=some r)∧Aside0 (kq ≤ k)∧Aside0 (Below w.heap.size w w'))
   case atStart=>exact ⟨(rd D 0),(1),(by first|rfl|(simp;done)|(simp [*];done)),(by first|rfl|(simp;done)|(simp [*];done)),H',⟨Nat.le_refl _⟩,⟨by repeat (first|(with_reducible first|exact M.1|apply below_alloc|apply pw_below_drewN|apply below_drew1)|exact M.1)⟩⟩
   case round =>
    clear H';try clear p1
    try clear q1
    try clear hx1
    try clear qi1
    try clear c2
    try clear c2b0
    try clear c2b1
    try clear p2
    try clear c3
    try clear c3b0
    try clear c3b1
    try clear E
    try clear I
    try clear J
    obtain ⟨F,B,rfl,rfl,HA,Y,M⟩:=hrel;cases gk with
    | zero=>exact absurd HA.1 (by simp [slices_Max_int_int.l0])
    | succ k1 =>
     have H:=HA.1;clear HA;simp only [slices_Max_int_int.l0] at H
     by_cases c4:B < (D.length:Int)
     ·
      rw [if_pos c4] at H;have c4b0:decide (B < (D.length:Int))=true:=decide_eq_true c4;clear c4
      by_cases c5:0 ≤ B
      ·
       rw [if_pos c5] at H;have c5b0:decide (0 ≤ B)=true:=decide_eq_true c5;clear c5;obtain ⟨Q,L⟩:∃ j_:Int,(mx F (rd D B))=j_:=⟨_,rfl⟩
       replace H:(slices_Max_int_int.l0 k1 D Q (wrap64 (B + 1)))=some r:=by first|(rw [L] at H;exact H)|(simp only [L] at H ⊢;exact H)
       have a4:(if F < (rd D B) then (rd D B) else F)=Q:=L;have H':=mk0 H;clear H;have N:0 ≤ (B:Int):=of_decide_eq_true (by first|(with_reducible assumption)|assumption);have O:B < (D.length:Int):=of_decide_eq_true (by first|(with_reducible assumption)|assumption);obtain ⟨T,a0,G⟩:=Kd.at_int X.1 B N O;obtain rfl:R=T:=(by injection a0)
       replace G:=(M.1.cell (World.block_lt_of_cell? w _ G)).trans G;replace N:=eq_true N;replace O:=eq_true O;go_wp2;go_roundg k1
       case measure=>have:=Y.1;omega
       case rel=>exact ⟨(Q),(wrap64 (B + 1)),(by first|rfl|(simp;done)|(simp only [← L] <;> (first|rfl|simp))|(simp [*];done)),(by first|rfl|(simp;done)|(simp [*];done)),H',⟨by have:=Y.1;omega⟩,⟨by repeat (first|(with_reducible first|exact M.1|apply below_alloc|apply pw_below_drewN|apply below_drew1)|exact M.1)⟩⟩
      ·
       rw [if_neg c5] at H;exact absurd H (by simp)
     ·
      rw [if_neg c4] at H;have c4b0:decide (B < (D.length:Int))=false:=decide_eq_false c4;clear c4;obtain rfl:=Option.some.inj H;go_wp2;go_ret;exact ⟨by first|rfl|(simp [errW_none,errW_some] <;> rfl)|(simp [*,errW_none,errW_some] <;> rfl),by repeat (first|(with_reducible first|exact M.1|apply below_alloc|apply pw_below_drewN|apply below_drew1)|exact M.1)⟩
  ·
   rw [if_neg c3] at H;exact absurd H (by simp)
/-! ### norm_check: function 47 -/
mutual
def norm_check.l0:Nat → List (S23) → List (S23) → Int → Int → Option (Int)
  | 0,_,_,_,_=>none
  | k + 1,x0,x8,x9,x10=>if x10 < x9 then (if 0 ≤ x10 then (if x10 < (x8.length:Int) then ((norm_of.f ((rd_T23 x8 x10).f0) ((rd_T23 x8 x10).f1) ((rd_T23 x8 x10).f2) ((rd_T23 x8 x10).f3)).bind fun bt110=>((norm_quat_integral.f k bt110.1 bt110.2.1 bt110.2.2.1 bt110.2.2.2).bind fun t114=>(if t114=true then (norm_check.l0 k x0 x8 x9 (wrap64 (x10 + 1))) else (some 2)))) else (none)) else (none)) else (norm_check.l1 k x0 (x0.length:Int) 0)
def norm_check.l1:Nat → List (S23) → Int → Int → Option (Int)
  | 0,_,_,_=>none
  | k + 1,x19,x20,x21=>if x21 < x20 then (if 0 ≤ x21 then (if x21 < (x19.length:Int) then ((norm_of.f ((rd_T23 x19 x21).f0) ((rd_T23 x19 x21).f1) ((rd_T23 x19 x21).f2) ((rd_T23 x19 x21).f3)).bind fun bt117=>((slices_Min_int_int.f k [bt117.1,bt117.2.1,bt117.2.2.1,bt117.2.2.2]).bind fun t122=>(if t122 < (-1000) then (some 1) else ((slices_Max_int_int.f k [bt117.1,bt117.2.1,bt117.2.2.1,bt117.2.2.2]).bind fun t123=>(if t123 > 1000 then (some 1) else (norm_check.l1 k x19 x20 (wrap64 (x21 + 1)))))))) else (none)) else (none)) else (some 0)
end
def norm_check.f (k:Nat) (l0:List (S23)):Option (Int):=norm_check.l0 k l0 l0 (l0.length:Int) 0
theorem norm_check.mono_l:∀ k,(∀ y0 y1 y2 y3,LeO (norm_check.l0 k y0 y1 y2 y3) (norm_check.l0 (k + 1) y0 y1 y2 y3))∧(∀ y0 y1 y2,LeO (norm_check.l1 k y0 y1 y2) (norm_check.l1 (k + 1) y0 y1 y2))
  | 0=>⟨fun _ _ _ _ r h=>by simp [norm_check.l0] at h,fun _ _ _ r h=>by simp [norm_check.l1] at h⟩
  | k + 1=>by
    obtain ⟨ih0,ih1⟩:=norm_check.mono_l k
    refine ⟨?_,?_⟩
    · intro y0 y1 y2 y3
      unfold norm_check.l0
      with_reducible repeat' first|exact ih0 _ _ _ _|exact ih1 _ _ _|exact norm_quat_integral.mono _ _ _ _ _|exact slices_Max_int_int.mono _ _|exact slices_Min_int_int.mono _ _|exact LeO.refl _|exact LeO.none _|refine LeO.ite ?_ ?_|refine LeO.bind ?_ (fun _=>?_)
    · intro y0 y1 y2
      unfold norm_check.l1
      with_reducible repeat' first|exact ih0 _ _ _ _|exact ih1 _ _ _|exact norm_quat_integral.mono _ _ _ _ _|exact slices_Max_int_int.mono _ _|exact slices_Min_int_int.mono _ _|exact LeO.refl _|exact LeO.none _|refine LeO.ite ?_ ?_|refine LeO.bind ?_ (fun _=>?_)
theorem norm_check.mono:∀ a0 k,LeO (norm_check.f k a0) (norm_check.f (k + 1) a0):=by
  intro a0 k
  obtain ⟨ih0,ih1⟩:=norm_check.mono_l k
  unfold norm_check.f
  with_reducible repeat' first|exact ih0 _ _ _ _|exact ih1 _ _ _|exact norm_quat_integral.mono _ _ _ _ _|exact slices_Max_int_int.mono _ _|exact slices_Min_int_int.mono _ _|exact LeO.refl _|exact LeO.none _|refine LeO.ite ?_ ?_|refine LeO.bind ?_ (fun _=>?_)
set_option maxHeartbeats 8000000 in
set_option maxRecDepth 100000 in
theorem norm_check.calls (k:Nat) (A0:Option Addr) (c0:Nat) (G:List (S23)) (r:Int) (w:World) (g2:Kd.C k23 w A0 G.length G) (g3:G.length ≤ c0) (h:norm_check.f k G=some r) :
    Calls Try.prog 47 #[.slice A0 G.length c0] w fun e w'=>e=.returned (.int .i64 r)∧Below w.heap.size w w':=by
 have q0:=Try.underlying23;have q2:=Try.underlying67;have d0:=mk0 g2;have q3:=mk0 g3;clear g2 g3;have J:=mk0 (Below.refl w.heap.size w);have H:(norm_check.l0 k G G (G.length:Int) 0)=some r:=h;clear h;have H':=mk0 H;clear H;go_enter Try.func47,Try.ntmps47;go_wp2
 go_loopg [10] k (fun kq o7 w'=>∃ (E:Int),o7=.int .i64 E∧Aside0 (norm_check.l0 kq G G (G.length:Int) E=some r)∧Aside0 (kq ≤ k)∧Aside0 (Below w.heap.size w w'))
 case atStart=>exact ⟨(0),(by first|rfl|(simp;done)|(simp [*];done)),H',⟨Nat.le_refl _⟩,⟨by repeat (first|(with_reducible first|exact J.1|apply below_alloc|apply pw_below_drewN|apply below_drew1)|exact J.1)⟩⟩
 case round =>
  clear H';obtain ⟨E,rfl,HA,d2,J⟩:=hrel;cases gk with
  | zero=>exact absurd HA.1 (by simp [norm_check.l0])
  | succ k1 =>
   have H:=HA.1;clear HA;simp only [norm_check.l0] at H
   by_cases c2:E < (G.length:Int)
   ·
    rw [if_pos c2] at H;have c2b0:decide (E < (G.length:Int))=true:=decide_eq_true c2;clear c2
    by_cases c3:0 ≤ E
    ·
     rw [if_pos c3] at H;have c3b0:decide (0 ≤ E)=true:=decide_eq_true c3;clear c3
     by_cases c4:E < (G.length:Int)
     ·
      rw [if_pos c4] at H;have c4b0:decide (E < (G.length:Int))=true:=decide_eq_true c4;clear c4;replace H:=Option.bind_eq_some_iff.mp H;obtain ⟨⟨b5,b6,b7,b8⟩,g4,H⟩:=H;(try dsimp only at H);have A5:=mk0 g4;clear g4;replace H:=Option.bind_eq_some_iff.mp H;obtain ⟨g8,g5,H⟩:=H;(try dsimp only at H);have A6:=mk0 g5;clear g5
      by_cases c7:g8=true
      ·
       subst c7;have H1:(norm_check.l0 k1 G G (G.length:Int) (wrap64 (E + 1)))=some r:=by rw [if_pos rfl] at H;exact H
       clear H;have H:=H1;clear H1;have H':=mk0 H;clear H;have b0:0 ≤ (E:Int):=of_decide_eq_true (by first|(with_reducible assumption)|assumption);have b1:E < (G.length:Int):=of_decide_eq_true (by first|(with_reducible assumption)|assumption);obtain ⟨g1,d1,Z,a0,a1,a2⟩:=at_T23 d0.1 E b0 b1;cases d1;replace Z:=(J.1.cell (World.block_lt_of_cell? w _ Z)).trans Z;replace a0:=(J.1.cell (World.block_lt_of_cell? w _ a0)).trans a0;replace a1:=(J.1.cell (World.block_lt_of_cell? w _ a1)).trans a1;replace a2:=(J.1.cell (World.block_lt_of_cell? w _ a2)).trans a2;replace b0:=eq_true b0;replace b1:=eq_true b1;go_wp2_with (first|((with_reducible refine gate_dst (N:=4) rfl ?_);refine box_event ?hg (N:=4) ?hd (cs:=#[.int .i64 0,.int .i64 0,.int .i64 0,.int .i64 0]) (t:=23) ?hr ?_;(case hd=>rfl);(case hg=>rfl);(case hr=>first|(go_simp;done)|(go_simp;rfl));intro c8 hg w8 R hb;have O:=mk0 (R);have c9:=szw hg J;have b2:=c9;replace J:=bst J hb;clear hb R hg;have e4:=q0_ O;have e5:=q1_ O;have e6:=q2_ O;have e7:=q3_ O;have e8:=blk_frozen O.1 0;have e9:=blk_frozen O.1 1;have f4:=blk_frozen O.1 2;have f5:=blk_frozen O.1 3)|((with_reducible refine gate_callee (f:=48) rfl ?_);refine goesL_ (some 15) rfl rfl Try.func48 (by kernel_rfl) rfl #[.agg #[.int .i64 ((rd_T23 G E).f0),.int .i64 ((rd_T23 G E).f1),.int .i64 ((rd_T23 G E).f2),.int .i64 ((rd_T23 G E).f3)]] rfl (by (try simp only [m0_,m1_,m2_]);first|done|rfl|(simp only [l0_,l1_];rfl)) ?_;(with_reducible refine (norm_of.calls ((rd_T23 G E).f0) ((rd_T23 G E).f1) ((rd_T23 G E).f2) ((rd_T23 G E).f3) b5 b6 b7 b8 _ A5.1).mono ?_);rintro e q4 ⟨rfl,hb⟩;refine ⟨_,rfl,?_⟩;replace O:=mk0 (blk_below (g:=c8) (o:=.cells #[.int .i64 ((rd_T23 G E).f0),.int .i64 ((rd_T23 G E).f1),.int .i64 ((rd_T23 G E).f2),.int .i64 ((rd_T23 G E).f3)] 23 (0,0)) (by refine blk_put (cs:=#[.int .i64 ((rd_T23 G E).f0),.int .i64 ((rd_T23 G E).f1),.int .i64 ((rd_T23 G E).f2),.int .i64 0]) ?_ 3 _ rfl;refine blk_put (cs:=#[.int .i64 ((rd_T23 G E).f0),.int .i64 ((rd_T23 G E).f1),.int .i64 0,.int .i64 0]) ?_ 2 _ rfl;refine blk_put (cs:=#[.int .i64 ((rd_T23 G E).f0),.int .i64 0,.int .i64 0,.int .i64 0]) ?_ 1 _ rfl;refine blk_put (cs:=#[.int .i64 0,.int .i64 0,.int .i64 0,.int .i64 0]) ?_ 0 _ rfl;exact O.1) hb);replace J:=mk0 (below_step (by repeat (with_reducible first|exact J.1|refine below_set ?_ b2.1)) hb);(try clear hb))|((with_reducible refine gate_callee (f:=68) rfl ?_);refine goesL_ (some 16) rfl rfl Try.func68 (by kernel_rfl) rfl #[.agg #[.int .i64 b5,.int .i64 b6,.int .i64 b7,.int .i64 b8]] rfl (by (try simp only [m0_,m1_,m2_]);first|done|rfl|(simp only [l0_,l1_];rfl)) ?_;(with_reducible refine (norm_quat_integral.calls k1 b5 b6 b7 b8 true _ A6.1).mono ?_);rintro e q5 ⟨rfl,hb⟩;refine ⟨_,rfl,?_⟩;replace O:=bkb O hb;replace J:=bst J hb;(try clear hb)));go_roundg k1
       case measure=>have:=d2.1;omega
       case rel=>exact ⟨(wrap64 (E + 1)),(by first|rfl|(simp;done)|(simp [*];done)),H',⟨by have:=d2.1;omega⟩,⟨by repeat (first|(with_reducible first|exact J.1|apply below_alloc|apply pw_below_drewN|apply below_drew1|refine below_set ?_ b2.1)|exact J.1)⟩⟩
      ·
       replace c7:=Bool.eq_false_iff.mpr c7;subst c7;have H1:(some 2)=some r:=by rw [if_neg (show ¬ (false=true) by decide)] at H;exact H
       clear H;have H:=H1;clear H1;obtain rfl:=Option.some.inj H;have b0:0 ≤ (E:Int):=of_decide_eq_true (by first|(with_reducible assumption)|assumption);have b1:E < (G.length:Int):=of_decide_eq_true (by first|(with_reducible assumption)|assumption);obtain ⟨g1,d1,Z,a0,a1,a2⟩:=at_T23 d0.1 E b0 b1;cases d1;replace Z:=(J.1.cell (World.block_lt_of_cell? w _ Z)).trans Z;replace a0:=(J.1.cell (World.block_lt_of_cell? w _ a0)).trans a0;replace a1:=(J.1.cell (World.block_lt_of_cell? w _ a1)).trans a1;replace a2:=(J.1.cell (World.block_lt_of_cell? w _ a2)).trans a2;replace b0:=eq_true b0;replace b1:=eq_true b1;go_wp2_with (first|((with_reducible refine gate_dst (N:=4) rfl ?_);refine box_event ?hg (N:=4) ?hd (cs:=#[.int .i64 0,.int .i64 0,.int .i64 0,.int .i64 0]) (t:=23) ?hr ?_;(case hd=>rfl);(case hg=>rfl);(case hr=>first|(go_simp;done)|(go_simp;rfl));intro c8 hg q6 R hb;have O:=mk0 (R);have c9:=szw hg J;have b2:=c9;replace J:=bst J hb;clear hb R hg;have d4:=q0_ O;have d5:=q1_ O;have d6:=q2_ O;have d7:=q3_ O;have d8:=blk_frozen O.1 0;have d9:=blk_frozen O.1 1;have e0:=blk_frozen O.1 2;have e1:=blk_frozen O.1 3)|((with_reducible refine gate_callee (f:=48) rfl ?_);refine goesL_ (some 15) rfl rfl Try.func48 (by kernel_rfl) rfl #[.agg #[.int .i64 ((rd_T23 G E).f0),.int .i64 ((rd_T23 G E).f1),.int .i64 ((rd_T23 G E).f2),.int .i64 ((rd_T23 G E).f3)]] rfl (by (try simp only [m0_,m1_,m2_]);first|done|rfl|(simp only [l0_,l1_];rfl)) ?_;(with_reducible refine (norm_of.calls ((rd_T23 G E).f0) ((rd_T23 G E).f1) ((rd_T23 G E).f2) ((rd_T23 G E).f3) b5 b6 b7 b8 _ A5.1).mono ?_);rintro e q7 ⟨rfl,hb⟩;refine ⟨_,rfl,?_⟩;replace O:=mk0 (blk_below (g:=c8) (o:=.cells #[.int .i64 ((rd_T23 G E).f0),.int .i64 ((rd_T23 G E).f1),.int .i64 ((rd_T23 G E).f2),.int .i64 ((rd_T23 G E).f3)] 23 (0,0)) (by refine blk_put (cs:=#[.int .i64 ((rd_T23 G E).f0),.int .i64 ((rd_T23 G E).f1),.int .i64 ((rd_T23 G E).f2),.int .i64 0]) ?_ 3 _ rfl;refine blk_put (cs:=#[.int .i64 ((rd_T23 G E).f0),.int .i64 ((rd_T23 G E).f1),.int .i64 0,.int .i64 0]) ?_ 2 _ rfl;refine blk_put (cs:=#[.int .i64 ((rd_T23 G E).f0),.int .i64 0,.int .i64 0,.int .i64 0]) ?_ 1 _ rfl;refine blk_put (cs:=#[.int .i64 0,.int .i64 0,.int .i64 0,.int .i64 0]) ?_ 0 _ rfl;exact O.1) hb);replace J:=mk0 (below_step (by repeat (with_reducible first|exact J.1|refine below_set ?_ b2.1)) hb);(try clear hb))|((with_reducible refine gate_callee (f:=68) rfl ?_);refine goesL_ (some 16) rfl rfl Try.func68 (by kernel_rfl) rfl #[.agg #[.int .i64 b5,.int .i64 b6,.int .i64 b7,.int .i64 b8]] rfl (by (try simp only [m0_,m1_,m2_]);first|done|rfl|(simp only [l0_,l1_];rfl)) ?_;(with_reducible refine (norm_quat_integral.calls k1 b5 b6 b7 b8 false _ A6.1).mono ?_);rintro e q8 ⟨rfl,hb⟩;refine ⟨_,rfl,?_⟩;replace O:=bkb O hb;replace J:=bst J hb;(try clear hb)));go_ret;exact ⟨by first|rfl|(simp [errW_none,errW_some] <;> rfl)|(simp [*,errW_none,errW_some] <;> rfl),by repeat (first|(with_reducible first|exact J.1|apply below_alloc|apply pw_below_drewN|apply below_drew1|refine below_set ?_ b2.1)|exact J.1)⟩
     ·
      rw [if_neg c4] at H;exact absurd H (by simp)
    ·
     rw [if_neg c3] at H;exact absurd H (by simp)
   ·
    rw [if_neg c2] at H;have c2b0:decide (E < (G.length:Int))=false:=decide_eq_false c2;clear c2;have H':=mk0 H;clear H;go_wp2
    go_loopg [21] k1 (fun kq p0 w'=>∃ (B:Int),p0=.int .i64 B∧Aside0 (norm_check.l1 kq G (G.length:Int) B=some r)∧Aside0 (kq ≤ k1)∧Aside0 (Below w.heap.size w w'))
    case atStart=>exact ⟨(0),(by first|rfl|(simp;done)|(simp [*];done)),H',⟨Nat.le_refl _⟩,⟨by repeat (first|(with_reducible first|exact J.1|apply below_alloc|apply pw_below_drewN|apply below_drew1)|exact J.1)⟩⟩
    case round =>
     clear H';try clear p1
     try clear q1
     try clear hx1
     try clear c2
     try clear c2b0
     try clear p2
     try clear c3
     try clear c3b0
     try clear c4
     try clear c4b0
     try clear c6
     try clear p6
     try clear c7
     try clear p10
     try clear q10
     try clear hx10
     try clear d4
     try clear d5
     try clear d6
     try clear d7
     try clear e4
     try clear e5
     try clear e6
     try clear e7
     try clear d8
     try clear d9
     try clear e0
     try clear e1
     try clear e8
     try clear e9
     try clear f4
     try clear f5
     try clear Z
     try clear a0
     try clear a1
     try clear a2
     try clear b0
     try clear b1
     obtain ⟨B,rfl,HA,g6,J⟩:=hrel;cases gk with
     | zero=>exact absurd HA.1 (by simp [norm_check.l1])
     | succ k2 =>
      have H:=HA.1;clear HA;simp only [norm_check.l1] at H
      by_cases c16:B < (G.length:Int)
      ·
       rw [if_pos c16] at H;have c16b0:decide (B < (G.length:Int))=true:=decide_eq_true c16;clear c16
       by_cases c17:0 ≤ B
       ·
        rw [if_pos c17] at H;have c17b0:decide (0 ≤ B)=true:=decide_eq_true c17;clear c17
        by_cases c18:B < (G.length:Int)
        ·
         rw [if_pos c18] at H;have c18b0:decide (B < (G.length:Int))=true:=decide_eq_true c18;clear c18;replace H:=Option.bind_eq_some_iff.mp H;obtain ⟨⟨I,L,M,Q⟩,f6,H⟩:=H;(try dsimp only at H);have f7:=mk0 f6;clear f6;replace H:=Option.bind_eq_some_iff.mp H;obtain ⟨b9,f8,H⟩:=H;(try dsimp only at H);have f9:=mk0 f8;clear f8
         by_cases c21:b9 < (-1000)
         ·
          rw [if_pos c21] at H;have c21b0:decide (b9 < (-1000))=true:=decide_eq_true c21;clear c21;obtain rfl:=Option.some.inj H;have a6:0 ≤ (B:Int):=of_decide_eq_true (by first|(with_reducible assumption)|assumption);have a7:B < (G.length:Int):=of_decide_eq_true (by first|(with_reducible assumption)|assumption);obtain ⟨d3,c1,T,U,V,X⟩:=at_T23 d0.1 B a6 a7;cases c1;replace T:=(J.1.cell (World.block_lt_of_cell? w _ T)).trans T;replace U:=(J.1.cell (World.block_lt_of_cell? w _ U)).trans U;replace V:=(J.1.cell (World.block_lt_of_cell? w _ V)).trans V;replace X:=(J.1.cell (World.block_lt_of_cell? w _ X)).trans X;replace a6:=eq_true a6;replace a7:=eq_true a7;go_wp2_with (first|((with_reducible refine gate_dst (N:=6) rfl ?_);refine box_event ?hg (N:=6) ?hd (cs:=#[.int .i64 0,.int .i64 0,.int .i64 0,.int .i64 0]) (t:=23) ?hr ?_;(case hd=>rfl);(case hg=>rfl);(case hr=>first|(go_simp;done)|(go_simp;rfl));intro a8 hg q9 R hb;have F:=mk0 (R);have b3:=szw hg J;have a3:=b3;replace J:=bst J hb;clear hb R hg;have g9:=q0_ F;have h0:=q1_ F;have h1:=q2_ F;have h2:=q3_ F;have h3:=blk_frozen F.1 0;have h4:=blk_frozen F.1 1;have h5:=blk_frozen F.1 2;have h6:=blk_frozen F.1 3)|((with_reducible refine gate_callee (f:=48) rfl ?_);refine goesL_ (some 26) rfl rfl Try.func48 (by kernel_rfl) rfl #[.agg #[.int .i64 ((rd_T23 G B).f0),.int .i64 ((rd_T23 G B).f1),.int .i64 ((rd_T23 G B).f2),.int .i64 ((rd_T23 G B).f3)]] rfl (by (try simp only [m0_,m1_,m2_]);first|done|rfl|(simp only [l0_,l1_];rfl)) ?_;(with_reducible refine (norm_of.calls ((rd_T23 G B).f0) ((rd_T23 G B).f1) ((rd_T23 G B).f2) ((rd_T23 G B).f3) I L M Q _ f7.1).mono ?_);rintro e r0 ⟨rfl,hb⟩;refine ⟨_,rfl,?_⟩;replace F:=mk0 (blk_below (g:=a8) (o:=.cells #[.int .i64 ((rd_T23 G B).f0),.int .i64 ((rd_T23 G B).f1),.int .i64 ((rd_T23 G B).f2),.int .i64 ((rd_T23 G B).f3)] 23 (0,0)) (by refine blk_put (cs:=#[.int .i64 ((rd_T23 G B).f0),.int .i64 ((rd_T23 G B).f1),.int .i64 ((rd_T23 G B).f2),.int .i64 0]) ?_ 3 _ rfl;refine blk_put (cs:=#[.int .i64 ((rd_T23 G B).f0),.int .i64 ((rd_T23 G B).f1),.int .i64 0,.int .i64 0]) ?_ 2 _ rfl;refine blk_put (cs:=#[.int .i64 ((rd_T23 G B).f0),.int .i64 0,.int .i64 0,.int .i64 0]) ?_ 1 _ rfl;refine blk_put (cs:=#[.int .i64 0,.int .i64 0,.int .i64 0,.int .i64 0]) ?_ 0 _ rfl;exact F.1) hb);replace J:=mk0 (below_step (by repeat (with_reducible first|exact J.1|refine below_set ?_ a3.1)) hb);(try clear hb))|((with_reducible refine gate_dst (N:=7) rfl ?_);refine box_event ?hg (N:=7) ?hd (cs:=#[.int .i64 0,.int .i64 0,.int .i64 0,.int .i64 0]) (t:=67) ?hr ?_;(case hd=>rfl);(case hg=>rfl);(case hr=>first|(go_simp;done)|(go_simp;rfl));intro a4 hg r1 R hb;have D:=mk0 (R);have b4:=szw hg J;have a9:=b4;have Y:=nlt hg F;have a5:=ngt hg F;replace F:=bkb F hb;replace J:=bst J hb;clear hb R hg;have p3:=a5.1;have p4:=Y.1;have h7:=q0_ D;have h8:=q1_ D;have h9:=q2_ D;have i0:=q3_ D;have i1:=blk_frozen D.1 0;have i2:=blk_frozen D.1 1;have i3:=blk_frozen D.1 2;have i4:=blk_frozen D.1 3)|((with_reducible refine gate_callee (f:=69) rfl ?_);refine goesL_ (some 28) rfl rfl Try.func69 (by kernel_rfl) rfl #[.slice (some ⟨a4,0,none⟩) [I,L,M,Q].length 4] rfl (by (try simp only [m0_,m1_,m2_]);first|done|(rw [show [I,L,M,Q].length=4 from rfl] <;> rfl)|rfl|(simp only [l0_,l1_];rfl)) ?_;(with_reducible refine (slices_Min_int_int.calls k2 _ _ [I,L,M,Q] b9 _ ?side1 ?side2 f9.1).mono ?_);(case side1=>exact Go.Proofs.MyWords.C_box (t:=67) (cs:=#[.int .i64 I,.int .i64 L,.int .i64 M,.int .i64 Q]) (by refine blk_put (cs:=#[.int .i64 I,.int .i64 L,.int .i64 M,.int .i64 0]) ?_ 3 _ rfl;refine blk_put (cs:=#[.int .i64 I,.int .i64 L,.int .i64 0,.int .i64 0]) ?_ 2 _ rfl;refine blk_put (cs:=#[.int .i64 I,.int .i64 0,.int .i64 0,.int .i64 0]) ?_ 1 _ rfl;refine blk_put (cs:=#[.int .i64 0,.int .i64 0,.int .i64 0,.int .i64 0]) ?_ 0 _ rfl;exact D.1) (by rfl) (Nat.le_of_ble_eq_true rfl));(case side2=>exact Nat.le_refl _);rintro e r2 ⟨rfl,hb⟩;refine ⟨_,rfl,?_⟩;replace F:=mk0 (blk_below (g:=a8) (o:=.cells #[.int .i64 ((rd_T23 G B).f0),.int .i64 ((rd_T23 G B).f1),.int .i64 ((rd_T23 G B).f2),.int .i64 ((rd_T23 G B).f3)] 23 (0,0)) (by (iterate 4 refine blk_far ?_ Y.1 _);exact F.1) hb);replace D:=mk0 (blk_below (g:=a4) (o:=.cells #[.int .i64 I,.int .i64 L,.int .i64 M,.int .i64 Q] 67 (0,0)) (by refine blk_put (cs:=#[.int .i64 I,.int .i64 L,.int .i64 M,.int .i64 0]) ?_ 3 _ rfl;refine blk_put (cs:=#[.int .i64 I,.int .i64 L,.int .i64 0,.int .i64 0]) ?_ 2 _ rfl;refine blk_put (cs:=#[.int .i64 I,.int .i64 0,.int .i64 0,.int .i64 0]) ?_ 1 _ rfl;refine blk_put (cs:=#[.int .i64 0,.int .i64 0,.int .i64 0,.int .i64 0]) ?_ 0 _ rfl;exact D.1) hb);replace J:=mk0 (below_step (by repeat (with_reducible first|exact J.1|refine below_set ?_ a3.1|refine below_set ?_ a9.1)) hb);(try clear hb)))
          go_ret;exact ⟨by first|rfl|(simp [errW_none,errW_some] <;> rfl)|(simp [*,errW_none,errW_some] <;> rfl),by repeat (first|(with_reducible first|exact J.1|apply below_alloc|apply pw_below_drewN|apply below_drew1|refine below_set ?_ a3.1|refine below_set ?_ a9.1)|exact J.1)⟩
         ·
          rw [if_neg c21] at H;have c21b0:decide (b9 < (-1000))=false:=decide_eq_false c21;clear c21;replace H:=Option.bind_eq_some_iff.mp H;obtain ⟨c5,g0,H⟩:=H;(try dsimp only at H);have g7:=mk0 g0;clear g0
          by_cases c30:c5 > 1000
          ·
           rw [if_pos c30] at H;have c30b0:decide (1000 < c5)=true:=decide_eq_true c30;clear c30;obtain rfl:=Option.some.inj H;have a6:0 ≤ (B:Int):=of_decide_eq_true (by first|(with_reducible assumption)|assumption);have a7:B < (G.length:Int):=of_decide_eq_true (by first|(with_reducible assumption)|assumption);obtain ⟨d3,c1,T,U,V,X⟩:=at_T23 d0.1 B a6 a7;cases c1;replace T:=(J.1.cell (World.block_lt_of_cell? w _ T)).trans T;replace U:=(J.1.cell (World.block_lt_of_cell? w _ U)).trans U;replace V:=(J.1.cell (World.block_lt_of_cell? w _ V)).trans V;replace X:=(J.1.cell (World.block_lt_of_cell? w _ X)).trans X;replace a6:=eq_true a6;replace a7:=eq_true a7;go_wp2_with (first|((with_reducible refine gate_dst (N:=6) rfl ?_);refine box_event ?hg (N:=6) ?hd (cs:=#[.int .i64 0,.int .i64 0,.int .i64 0,.int .i64 0]) (t:=23) ?hr ?_;(case hd=>rfl);(case hg=>rfl);(case hr=>first|(go_simp;done)|(go_simp;rfl));intro a8 hg r3 R hb;have F:=mk0 (R);have b3:=szw hg J;have a3:=b3;replace J:=bst J hb;clear hb R hg;have i5:=q0_ F;have i6:=q1_ F;have i7:=q2_ F;have i8:=q3_ F;have i9:=blk_frozen F.1 0;have j0:=blk_frozen F.1 1;have j1:=blk_frozen F.1 2;have j2:=blk_frozen F.1 3)|((with_reducible refine gate_callee (f:=48) rfl ?_);refine goesL_ (some 26) rfl rfl Try.func48 (by kernel_rfl) rfl #[.agg #[.int .i64 ((rd_T23 G B).f0),.int .i64 ((rd_T23 G B).f1),.int .i64 ((rd_T23 G B).f2),.int .i64 ((rd_T23 G B).f3)]] rfl (by (try simp only [m0_,m1_,m2_]);first|done|rfl|(simp only [l0_,l1_];rfl)) ?_;(with_reducible refine (norm_of.calls ((rd_T23 G B).f0) ((rd_T23 G B).f1) ((rd_T23 G B).f2) ((rd_T23 G B).f3) I L M Q _ f7.1).mono ?_);rintro e r4 ⟨rfl,hb⟩;refine ⟨_,rfl,?_⟩;replace F:=mk0 (blk_below (g:=a8) (o:=.cells #[.int .i64 ((rd_T23 G B).f0),.int .i64 ((rd_T23 G B).f1),.int .i64 ((rd_T23 G B).f2),.int .i64 ((rd_T23 G B).f3)] 23 (0,0)) (by refine blk_put (cs:=#[.int .i64 ((rd_T23 G B).f0),.int .i64 ((rd_T23 G B).f1),.int .i64 ((rd_T23 G B).f2),.int .i64 0]) ?_ 3 _ rfl;refine blk_put (cs:=#[.int .i64 ((rd_T23 G B).f0),.int .i64 ((rd_T23 G B).f1),.int .i64 0,.int .i64 0]) ?_ 2 _ rfl;refine blk_put (cs:=#[.int .i64 ((rd_T23 G B).f0),.int .i64 0,.int .i64 0,.int .i64 0]) ?_ 1 _ rfl;refine blk_put (cs:=#[.int .i64 0,.int .i64 0,.int .i64 0,.int .i64 0]) ?_ 0 _ rfl;exact F.1) hb);replace J:=mk0 (below_step (by repeat (with_reducible first|exact J.1|refine below_set ?_ a3.1)) hb);(try clear hb))|((with_reducible refine gate_dst (N:=7) rfl ?_);refine box_event ?hg (N:=7) ?hd (cs:=#[.int .i64 0,.int .i64 0,.int .i64 0,.int .i64 0]) (t:=67) ?hr ?_;(case hd=>rfl);(case hg=>rfl);(case hr=>first|(go_simp;done)|(go_simp;rfl));intro a4 hg r5 R hb;have D:=mk0 (R);have b4:=szw hg J;have a9:=b4;have Y:=nlt hg F;have a5:=ngt hg F;replace F:=bkb F hb;replace J:=bst J hb;clear hb R hg;have p5:=a5.1;have p7:=Y.1;have j3:=q0_ D;have j4:=q1_ D;have j5:=q2_ D;have j6:=q3_ D;have j7:=blk_frozen D.1 0;have j8:=blk_frozen D.1 1;have j9:=blk_frozen D.1 2;have l2:=blk_frozen D.1 3)|((with_reducible refine gate_callee (f:=69) rfl ?_);refine goesL_ (some 28) rfl rfl Try.func69 (by kernel_rfl) rfl #[.slice (some ⟨a4,0,none⟩) [I,L,M,Q].length 4] rfl (by (try simp only [m0_,m1_,m2_]);first|done|(rw [show [I,L,M,Q].length=4 from rfl] <;> rfl)|rfl|(simp only [l0_,l1_];rfl)) ?_;(with_reducible refine (slices_Min_int_int.calls k2 _ _ [I,L,M,Q] b9 _ ?side1 ?side2 f9.1).mono ?_);(case side1=>exact Go.Proofs.MyWords.C_box (t:=67) (cs:=#[.int .i64 I,.int .i64 L,.int .i64 M,.int .i64 Q]) (by refine blk_put (cs:=#[.int .i64 I,.int .i64 L,.int .i64 M,.int .i64 0]) ?_ 3 _ rfl;refine blk_put (cs:=#[.int .i64 I,.int .i64 L,.int .i64 0,.int .i64 0]) ?_ 2 _ rfl;refine blk_put (cs:=#[.int .i64 I,.int .i64 0,.int .i64 0,.int .i64 0]) ?_ 1 _ rfl;refine blk_put (cs:=#[.int .i64 0,.int .i64 0,.int .i64 0,.int .i64 0]) ?_ 0 _ rfl;exact D.1) (by rfl) (Nat.le_of_ble_eq_true rfl));(case side2=>exact Nat.le_refl _);rintro e r6 ⟨rfl,hb⟩;refine ⟨_,rfl,?_⟩;replace F:=mk0 (blk_below (g:=a8) (o:=.cells #[.int .i64 ((rd_T23 G B).f0),.int .i64 ((rd_T23 G B).f1),.int .i64 ((rd_T23 G B).f2),.int .i64 ((rd_T23 G B).f3)] 23 (0,0)) (by (iterate 4 refine blk_far ?_ Y.1 _);exact F.1) hb);replace D:=mk0 (blk_below (g:=a4) (o:=.cells #[.int .i64 I,.int .i64 L,.int .i64 M,.int .i64 Q] 67 (0,0)) (by refine blk_put (cs:=#[.int .i64 I,.int .i64 L,.int .i64 M,.int .i64 0]) ?_ 3 _ rfl;refine blk_put (cs:=#[.int .i64 I,.int .i64 L,.int .i64 0,.int .i64 0]) ?_ 2 _ rfl;refine blk_put (cs:=#[.int .i64 I,.int .i64 0,.int .i64 0,.int .i64 0]) ?_ 1 _ rfl;refine blk_put (cs:=#[.int .i64 0,.int .i64 0,.int .i64 0,.int .i64 0]) ?_ 0 _ rfl;exact D.1) hb);replace J:=mk0 (below_step (by repeat (with_reducible first|exact J.1|refine below_set ?_ a3.1|refine below_set ?_ a9.1)) hb);(try clear hb);have l3:=q0_ D;have l4:=q1_ D;have l5:=q2_ D;have l6:=q3_ D;have l7:=blk_frozen D.1 0;have l8:=blk_frozen D.1 1;have l9:=blk_frozen D.1 2;have m0:=blk_frozen D.1 3)|(go_at_call 70;refine calls_of_args (args':=#[.slice (some ⟨a4,0,none⟩) [I,L,M,Q].length 4]) (by first|(rw [show [I,L,M,Q].length=4 from rfl] <;> rfl)|rfl) ?_;(with_reducible refine (slices_Max_int_int.calls k2 _ _ [I,L,M,Q] c5 _ ?side1 ?side2 g7.1).mono ?_);(case side1=>exact Go.Proofs.MyWords.C_box (t:=67) (cs:=#[.int .i64 I,.int .i64 L,.int .i64 M,.int .i64 Q]) D.1 (by rfl) (Nat.le_of_ble_eq_true rfl));(case side2=>exact Nat.le_refl _);rintro e r7 ⟨rfl,hb⟩;replace F:=bkb F hb;replace D:=bkb D hb;replace J:=bst J hb;(try clear hb)))
           go_ret;exact ⟨by first|rfl|(simp [errW_none,errW_some] <;> rfl)|(simp [*,errW_none,errW_some] <;> rfl),by repeat (first|(with_reducible first|exact J.1|apply below_alloc|apply pw_below_drewN|apply below_drew1|refine below_set ?_ a3.1|refine below_set ?_ a9.1)|exact J.1)⟩
          ·
           rw [if_neg c30] at H;have c30b0:decide (1000 < c5)=false:=decide_eq_false c30;clear c30;have H':=mk0 H;clear H;have a6:0 ≤ (B:Int):=of_decide_eq_true (by first|(with_reducible assumption)|assumption);have a7:B < (G.length:Int):=of_decide_eq_true (by first|(with_reducible assumption)|assumption);obtain ⟨d3,c1,T,U,V,X⟩:=at_T23 d0.1 B a6 a7;cases c1;replace T:=(J.1.cell (World.block_lt_of_cell? w _ T)).trans T;replace U:=(J.1.cell (World.block_lt_of_cell? w _ U)).trans U;replace V:=(J.1.cell (World.block_lt_of_cell? w _ V)).trans V;replace X:=(J.1.cell (World.block_lt_of_cell? w _ X)).trans X;replace a6:=eq_true a6;replace a7:=eq_true a7;go_wp2_with (first|((with_reducible refine gate_dst (N:=6) rfl ?_);refine box_event ?hg (N:=6) ?hd (cs:=#[.int .i64 0,.int .i64 0,.int .i64 0,.int .i64 0]) (t:=23) ?hr ?_;(case hd=>rfl);(case hg=>rfl);(case hr=>first|(go_simp;done)|(go_simp;rfl));intro a8 hg r8 R hb;have F:=mk0 (R);have b3:=szw hg J;have a3:=b3;replace J:=bst J hb;clear hb R hg;have m1:=q0_ F;have m2:=q1_ F;have m3:=q2_ F;have m4:=q3_ F;have m5:=blk_frozen F.1 0;have m6:=blk_frozen F.1 1;have m7:=blk_frozen F.1 2;have m8:=blk_frozen F.1 3)|((with_reducible refine gate_callee (f:=48) rfl ?_);refine goesL_ (some 26) rfl rfl Try.func48 (by kernel_rfl) rfl #[.agg #[.int .i64 ((rd_T23 G B).f0),.int .i64 ((rd_T23 G B).f1),.int .i64 ((rd_T23 G B).f2),.int .i64 ((rd_T23 G B).f3)]] rfl (by (try simp only [m0_,m1_,m2_]);first|done|rfl|(simp only [l0_,l1_];rfl)) ?_;(with_reducible refine (norm_of.calls ((rd_T23 G B).f0) ((rd_T23 G B).f1) ((rd_T23 G B).f2) ((rd_T23 G B).f3) I L M Q _ f7.1).mono ?_);rintro e r9 ⟨rfl,hb⟩;refine ⟨_,rfl,?_⟩;replace F:=mk0 (blk_below (g:=a8) (o:=.cells #[.int .i64 ((rd_T23 G B).f0),.int .i64 ((rd_T23 G B).f1),.int .i64 ((rd_T23 G B).f2),.int .i64 ((rd_T23 G B).f3)] 23 (0,0)) (by refine blk_put (cs:=#[.int .i64 ((rd_T23 G B).f0),.int .i64 ((rd_T23 G B).f1),.int .i64 ((rd_T23 G B).f2),.int .i64 0]) ?_ 3 _ rfl;refine blk_put (cs:=#[.int .i64 ((rd_T23 G B).f0),.int .i64 ((rd_T23 G B).f1),.int .i64 0,.int .i64 0]) ?_ 2 _ rfl;refine blk_put (cs:=#[.int .i64 ((rd_T23 G B).f0),.int .i64 0,.int .i64 0,.int .i64 0]) ?_ 1 _ rfl;refine blk_put (cs:=#[.int .i64 0,.int .i64 0,.int .i64 0,.int .i64 0]) ?_ 0 _ rfl;exact F.1) hb);replace J:=mk0 (below_step (by repeat (with_reducible first|exact J.1|refine below_set ?_ a3.1)) hb);(try clear hb))|((with_reducible refine gate_dst (N:=7) rfl ?_);refine box_event ?hg (N:=7) ?hd (cs:=#[.int .i64 0,.int .i64 0,.int .i64 0,.int .i64 0]) (t:=67) ?hr ?_;(case hd=>rfl);(case hg=>rfl);(case hr=>first|(go_simp;done)|(go_simp;rfl));intro a4 hg s0 R hb;have D:=mk0 (R);have b4:=szw hg J;have a9:=b4;have Y:=nlt hg F;have a5:=ngt hg F;replace F:=bkb F hb;replace J:=bst J hb;clear hb R hg;have p8:=a5.1;have p9:=Y.1;have m9:=q0_ D;have n0:=q1_ D;have n1:=q2_ D;have n2:=q3_ D;have n3:=blk_frozen D.1 0;have n4:=blk_frozen D.1 1;have n5:=blk_frozen D.1 2;have n6:=blk_frozen D.1 3)|((with_reducible refine gate_callee (f:=69) rfl ?_);refine goesL_ (some 28) rfl rfl Try.func69 (by kernel_rfl) rfl #[.slice (some ⟨a4,0,none⟩) [I,L,M,Q].length 4] rfl (by (try simp only [m0_,m1_,m2_]);first|done|(rw [show [I,L,M,Q].length=4 from rfl] <;> rfl)|rfl|(simp only [l0_,l1_];rfl)) ?_;(with_reducible refine (slices_Min_int_int.calls k2 _ _ [I,L,M,Q] b9 _ ?side1 ?side2 f9.1).mono ?_);(case side1=>exact Go.Proofs.MyWords.C_box (t:=67) (cs:=#[.int .i64 I,.int .i64 L,.int .i64 M,.int .i64 Q]) (by refine blk_put (cs:=#[.int .i64 I,.int .i64 L,.int .i64 M,.int .i64 0]) ?_ 3 _ rfl;refine blk_put (cs:=#[.int .i64 I,.int .i64 L,.int .i64 0,.int .i64 0]) ?_ 2 _ rfl;refine blk_put (cs:=#[.int .i64 I,.int .i64 0,.int .i64 0,.int .i64 0]) ?_ 1 _ rfl;refine blk_put (cs:=#[.int .i64 0,.int .i64 0,.int .i64 0,.int .i64 0]) ?_ 0 _ rfl;exact D.1) (by rfl) (Nat.le_of_ble_eq_true rfl));(case side2=>exact Nat.le_refl _);rintro e s1 ⟨rfl,hb⟩;refine ⟨_,rfl,?_⟩;replace F:=mk0 (blk_below (g:=a8) (o:=.cells #[.int .i64 ((rd_T23 G B).f0),.int .i64 ((rd_T23 G B).f1),.int .i64 ((rd_T23 G B).f2),.int .i64 ((rd_T23 G B).f3)] 23 (0,0)) (by (iterate 4 refine blk_far ?_ Y.1 _);exact F.1) hb);replace D:=mk0 (blk_below (g:=a4) (o:=.cells #[.int .i64 I,.int .i64 L,.int .i64 M,.int .i64 Q] 67 (0,0)) (by refine blk_put (cs:=#[.int .i64 I,.int .i64 L,.int .i64 M,.int .i64 0]) ?_ 3 _ rfl;refine blk_put (cs:=#[.int .i64 I,.int .i64 L,.int .i64 0,.int .i64 0]) ?_ 2 _ rfl;refine blk_put (cs:=#[.int .i64 I,.int .i64 0,.int .i64 0,.int .i64 0]) ?_ 1 _ rfl;refine blk_put (cs:=#[.int .i64 0,.int .i64 0,.int .i64 0,.int .i64 0]) ?_ 0 _ rfl;exact D.1) hb);replace J:=mk0 (below_step (by repeat (with_reducible first|exact J.1|refine below_set ?_ a3.1|refine below_set ?_ a9.1)) hb);(try clear hb);have n7:=q0_ D;have n8:=q1_ D;have n9:=q2_ D;have o0:=q3_ D;have o1:=blk_frozen D.1 0;have o2:=blk_frozen D.1 1;have o3:=blk_frozen D.1 2;have o4:=blk_frozen D.1 3)|(go_at_call 70;refine calls_of_args (args':=#[.slice (some ⟨a4,0,none⟩) [I,L,M,Q].length 4]) (by first|(rw [show [I,L,M,Q].length=4 from rfl] <;> rfl)|rfl) ?_;(with_reducible refine (slices_Max_int_int.calls k2 _ _ [I,L,M,Q] c5 _ ?side1 ?side2 g7.1).mono ?_);(case side1=>exact Go.Proofs.MyWords.C_box (t:=67) (cs:=#[.int .i64 I,.int .i64 L,.int .i64 M,.int .i64 Q]) D.1 (by rfl) (Nat.le_of_ble_eq_true rfl));(case side2=>exact Nat.le_refl _);rintro e s2 ⟨rfl,hb⟩;replace F:=bkb F hb;replace D:=bkb D hb;replace J:=bst J hb;(try clear hb)))
           go_roundg k2
           case measure=>have:=d2.1;have:=g6.1;omega
           case rel=>exact ⟨(wrap64 (B + 1)),(by first|rfl|(simp;done)|(simp [*];done)),H',⟨by have:=d2.1;have:=g6.1;omega⟩,⟨by repeat (first|(with_reducible first|exact J.1|apply below_alloc|apply pw_below_drewN|apply below_drew1|refine below_set ?_ a3.1|refine below_set ?_ a9.1)|exact J.1)⟩⟩
        ·
         rw [if_neg c18] at H;exact absurd H (by simp)
       ·
        rw [if_neg c17] at H;exact absurd H (by simp)
      ·
       rw [if_neg c16] at H;have c16b0:decide (B < (G.length:Int))=false:=decide_eq_false c16;clear c16;obtain rfl:=Option.some.inj H;go_wp2;go_ret;exact ⟨by first|rfl|(simp [errW_none,errW_some] <;> rfl)|(simp [*,errW_none,errW_some] <;> rfl),by repeat (first|(with_reducible first|exact J.1|apply below_alloc|apply pw_below_drewN|apply below_drew1)|exact J.1)⟩
/-! ### norm_quat_double: function 71 -/
def norm_quat_double.f (a0_0:Int) (a0_1:Int) (a0_2:Int) (a0_3:Int) (a1_0:Int) (a1_1:Int) (a1_2:Int) (a1_3:Int):Option (Int × Int × Int × Int):=some (wrap64 ((wrap64 ((wrap64 ((wrap64 (a0_0 * a1_0)) - (wrap64 (a0_1 * a1_1)))) - (wrap64 (a0_2 * a1_2)))) - (wrap64 (a0_3 * a1_3))),wrap64 ((wrap64 ((wrap64 ((wrap64 (a0_0 * a1_1)) + (wrap64 (a0_1 * a1_0)))) + (wrap64 (a0_2 * a1_3)))) - (wrap64 (a0_3 * a1_2))),wrap64 ((wrap64 ((wrap64 ((wrap64 (a0_0 * a1_2)) - (wrap64 (a0_1 * a1_3)))) + (wrap64 (a0_2 * a1_0)))) + (wrap64 (a0_3 * a1_1))),wrap64 ((wrap64 ((wrap64 ((wrap64 (a0_0 * a1_3)) + (wrap64 (a0_1 * a1_2)))) - (wrap64 (a0_2 * a1_1)))) + (wrap64 (a0_3 * a1_0))))
set_option maxHeartbeats 8000000 in
set_option maxRecDepth 100000 in
theorem norm_quat_double.calls (C:Int) (D:Int) (E:Int) (F:Int) (G:Int) (I:Int) (J:Int) (L:Int) (r1:Int) (r2:Int) (r3:Int) (r4:Int) (w:World) (h:norm_quat_double.f C D E F G I J L=some (r1,r2,r3,r4)) :
    Calls Try.prog 71 #[.agg #[.int .i64 C,.int .i64 D,.int .i64 E,.int .i64 F],.agg #[.int .i64 G,.int .i64 I,.int .i64 J,.int .i64 L]] w fun e w'=>e=.returned (.agg #[.int .i64 r1,.int .i64 r2,.int .i64 r3,.int .i64 r4])∧Below w.heap.size w w':=by
 have d7:=Try.underlying67;have R:=mk0 (Below.refl w.heap.size w);have H:(some (wrap64 ((wrap64 ((wrap64 ((wrap64 (C * G)) - (wrap64 (D * I)))) - (wrap64 (E * J)))) - (wrap64 (F * L))),wrap64 ((wrap64 ((wrap64 ((wrap64 (C * I)) + (wrap64 (D * G)))) + (wrap64 (E * L)))) - (wrap64 (F * J))),wrap64 ((wrap64 ((wrap64 ((wrap64 (C * J)) - (wrap64 (D * L)))) + (wrap64 (E * G)))) + (wrap64 (F * I))),wrap64 ((wrap64 ((wrap64 ((wrap64 (C * L)) + (wrap64 (D * J)))) - (wrap64 (E * I)))) + (wrap64 (F * G)))))=some (r1,r2,r3,r4):=h;clear h;simp only [Option.some.injEq,Prod.mk.injEq] at H;obtain ⟨rfl,rfl,rfl,rfl⟩:=H;(go_enter Try.func71,Try.ntmps71);dsimp only [List.append];go_wp2_with (first|((with_reducible refine gate_dst (N:=2) rfl ?_);refine box_event ?hg (N:=2) ?hd (cs:=#[.int .i64 C,.int .i64 D,.int .i64 E,.int .i64 F]) (t:=67) ?hr ?_;(case hd=>rfl);(case hg=>rfl);(case hr=>first|(go_simp;done)|(go_simp;rfl));intro d5 hg w3 Q hb;have B:=mk0 (Q);have a0:=szw hg R;have a1:=a0;replace R:=bst R hb;clear hb Q hg)|((with_reducible refine gate_dst (N:=3) rfl ?_);refine box_event ?hg (N:=3) ?hd (cs:=#[.int .i64 G,.int .i64 I,.int .i64 J,.int .i64 L]) (t:=67) ?hr ?_;(case hd=>rfl);(case hg=>rfl);(case hr=>first|(go_simp;done)|(go_simp;rfl));intro d6 hg w4 Q hb;have M:=mk0 (Q);have a2:=szw hg R;have a3:=a2;have T:=nlt hg B;have U:=ngt hg B;replace B:=bkb B hb;replace R:=bst R hb;clear hb Q hg)|((with_reducible refine gate_dst (N:=4) rfl ?_);refine box_event ?hg (N:=4) ?hd (cs:=#[.int .i64 0,.int .i64 0,.int .i64 0,.int .i64 0]) (t:=67) ?hr ?_;(case hd=>rfl);(case hg=>rfl);(case hr=>first|(go_simp;done)|(go_simp;rfl));intro a4 hg w5 Q hb;have O:=mk0 (Q);have a5:=szw hg R;have a6:=a5;have V:=nlt hg B;have X:=ngt hg B;have Y:=nlt hg M;have Z:=ngt hg M;replace B:=bkb B hb;replace M:=bkb M hb;replace R:=bst R hb;clear hb Q hg;have d8:=T.1;have d9:=U.1;have e0:=V.1;have e1:=X.1;have c7:=q0_ B;have c8:=q1_ B;have c9:=q2_ B;have d0:=q3_ B;have d1:=blk_frozen B.1 0;have d2:=blk_frozen B.1 1;have d3:=blk_frozen B.1 2;have d4:=blk_frozen B.1 3;have e2:=Y.1;have e3:=Z.1;have b1:=q0_ M;have b2:=q1_ M;have b3:=q2_ M;have b4:=q3_ M;have b5:=blk_frozen M.1 0;have b6:=blk_frozen M.1 1;have b7:=blk_frozen M.1 2;have b8:=blk_frozen M.1 3;have b9:=q0_ O;have c0:=q1_ O;have c1:=q2_ O;have c2:=q3_ O;have c3:=blk_frozen O.1 0;have c4:=blk_frozen O.1 1;have c5:=blk_frozen O.1 2;have c6:=blk_frozen O.1 3))
 refine bodyPost_ret (results_cell_row rfl _ _ a4 67 #[.int .i64 (wrap64 ((wrap64 ((wrap64 ((wrap64 (C * G)) - (wrap64 (D * I)))) - (wrap64 (E * J)))) - (wrap64 (F * L)))),.int .i64 (wrap64 ((wrap64 ((wrap64 ((wrap64 (C * I)) + (wrap64 (D * G)))) + (wrap64 (E * L)))) - (wrap64 (F * J)))),.int .i64 (wrap64 ((wrap64 ((wrap64 ((wrap64 (C * J)) - (wrap64 (D * L)))) + (wrap64 (E * G)))) + (wrap64 (F * I)))),.int .i64 (wrap64 ((wrap64 ((wrap64 ((wrap64 (C * L)) + (wrap64 (D * J)))) - (wrap64 (E * I)))) + (wrap64 (F * G))))] (0,0) _ rfl (by refine blk_put (cs:=#[.int .i64 (wrap64 ((wrap64 ((wrap64 ((wrap64 (C * G)) - (wrap64 (D * I)))) - (wrap64 (E * J)))) - (wrap64 (F * L)))),.int .i64 (wrap64 ((wrap64 ((wrap64 ((wrap64 (C * I)) + (wrap64 (D * G)))) + (wrap64 (E * L)))) - (wrap64 (F * J)))),.int .i64 (wrap64 ((wrap64 ((wrap64 ((wrap64 (C * J)) - (wrap64 (D * L)))) + (wrap64 (E * G)))) + (wrap64 (F * I)))),.int .i64 0]) ?_ 3 _ rfl;refine blk_put (cs:=#[.int .i64 (wrap64 ((wrap64 ((wrap64 ((wrap64 (C * G)) - (wrap64 (D * I)))) - (wrap64 (E * J)))) - (wrap64 (F * L)))),.int .i64 (wrap64 ((wrap64 ((wrap64 ((wrap64 (C * I)) + (wrap64 (D * G)))) + (wrap64 (E * L)))) - (wrap64 (F * J)))),.int .i64 0,.int .i64 0]) ?_ 2 _ rfl;refine blk_put (cs:=#[.int .i64 (wrap64 ((wrap64 ((wrap64 ((wrap64 (C * G)) - (wrap64 (D * I)))) - (wrap64 (E * J)))) - (wrap64 (F * L)))),.int .i64 0,.int .i64 0,.int .i64 0]) ?_ 1 _ rfl;refine blk_put (cs:=#[.int .i64 0,.int .i64 0,.int .i64 0,.int .i64 0]) ?_ 0 _ rfl;exact O.1) Try.underlying67 rfl (by kernel_rfl)) rfl ?_;exact ⟨by first|rfl|(simp [errW_none,errW_some] <;> rfl)|(simp [*,errW_none,errW_some] <;> rfl),by repeat (first|(with_reducible first|exact R.1|apply below_alloc|apply pw_below_drewN|apply below_drew1|refine below_set ?_ a1.1|refine below_set ?_ a3.1|refine below_set ?_ a6.1)|exact R.1)⟩
/-! ### norm_product: function 54 -/
mutual
def norm_product.l0:Nat → List (S67) → Int → Int → Int → Int → Int → Int → Option (Int × Int × Int × Int)
  | 0,_,_,_,_,_,_,_=>none
  | k + 1,x8,x9,x10,x129000,x129001,x129002,x129003=>if x10 < x9 then (if 0 ≤ x10 then (if x10 < (x8.length:Int) then ((norm_quat_double.f x129000 x129001 x129002 x129003 ((rd_T67 x8 x10).f0) ((rd_T67 x8 x10).f1) ((rd_T67 x8 x10).f2) ((rd_T67 x8 x10).f3)).bind fun bt131=>(norm_product.l1 k x8 x9 x10 0 bt131.1 bt131.2.1 bt131.2.2.1 bt131.2.2.2)) else (none)) else (none)) else (some (x129000,x129001,x129002,x129003))
def norm_product.l1:Nat → List (S67) → Int → Int → Int → Int → Int → Int → Int → Option (Int × Int × Int × Int)
  | 0,_,_,_,_,_,_,_,_=>none
  | k + 1,x8,x9,x10,x17,x129000,x129001,x129002,x129003=>if x17 < 4 then (if x17=0 then (norm_product.l1 k x8 x9 x10 1 (wrap64 (Int.tdiv x129000 2)) x129001 x129002 x129003) else (if x17=1 then (norm_product.l1 k x8 x9 x10 2 x129000 (wrap64 (Int.tdiv x129001 2)) x129002 x129003) else (if x17=2 then (norm_product.l1 k x8 x9 x10 3 x129000 x129001 (wrap64 (Int.tdiv x129002 2)) x129003) else (if x17=3 then (norm_product.l1 k x8 x9 x10 4 x129000 x129001 x129002 (wrap64 (Int.tdiv x129003 2))) else (none))))) else (norm_product.l0 k x8 x9 (wrap64 (x10 + 1)) x129000 x129001 x129002 x129003)
end
def norm_product.f (k:Nat) (l0:List (S67)):Option (Int × Int × Int × Int):=norm_product.l0 k l0 (l0.length:Int) 0 2 0 0 0
theorem norm_product.mono_l:∀ k,(∀ y0 y1 y2 y3 y4 y5 y6,LeO (norm_product.l0 k y0 y1 y2 y3 y4 y5 y6) (norm_product.l0 (k + 1) y0 y1 y2 y3 y4 y5 y6))∧(∀ y0 y1 y2 y3 y4 y5 y6 y7,LeO (norm_product.l1 k y0 y1 y2 y3 y4 y5 y6 y7) (norm_product.l1 (k + 1) y0 y1 y2 y3 y4 y5 y6 y7))
  | 0=>⟨fun _ _ _ _ _ _ _ r h=>by simp [norm_product.l0] at h,fun _ _ _ _ _ _ _ _ r h=>by simp [norm_product.l1] at h⟩
  | k + 1=>by
    obtain ⟨ih0,ih1⟩:=norm_product.mono_l k
    refine ⟨?_,?_⟩
    · intro y0 y1 y2 y3 y4 y5 y6
      unfold norm_product.l0
      with_reducible repeat' first|exact ih0 _ _ _ _ _ _ _|exact ih1 _ _ _ _ _ _ _ _|exact LeO.refl _|exact LeO.none _|refine LeO.ite ?_ ?_|refine LeO.bind ?_ (fun _=>?_)
    · intro y0 y1 y2 y3 y4 y5 y6 y7
      unfold norm_product.l1
      with_reducible repeat' first|exact ih0 _ _ _ _ _ _ _|exact ih1 _ _ _ _ _ _ _ _|exact LeO.refl _|exact LeO.none _|refine LeO.ite ?_ ?_|refine LeO.bind ?_ (fun _=>?_)
theorem norm_product.mono:∀ a0 k,LeO (norm_product.f k a0) (norm_product.f (k + 1) a0):=by
  intro a0 k
  obtain ⟨ih0,ih1⟩:=norm_product.mono_l k
  unfold norm_product.f
  with_reducible repeat' first|exact ih0 _ _ _ _ _ _ _|exact ih1 _ _ _ _ _ _ _ _|exact LeO.refl _|exact LeO.none _|refine LeO.ite ?_ ?_|refine LeO.bind ?_ (fun _=>?_)
set_option maxHeartbeats 8000000 in
set_option maxRecDepth 100000 in
theorem norm_product.calls (k:Nat) (A0:Option Addr) (c0:Nat) (U:List (S67)) (r1:Int) (r2:Int) (r3:Int) (r4:Int) (w:World) (h3:Kd.C k67 w A0 U.length U) (h4:U.length ≤ c0) (h:norm_product.f k U=some (r1,r2,r3,r4)) :
    Calls Try.prog 54 #[.slice A0 U.length c0] w fun e w'=>e=.returned (.agg #[.int .i64 r1,.int .i64 r2,.int .i64 r3,.int .i64 r4])∧Below w.heap.size w w':=by
 have r0:=Try.underlying67;have n9:=mk0 h3;have r8:=mk0 h4;clear h3 h4;have Y:=mk0 (Below.refl w.heap.size w);have H:(norm_product.l0 k U (U.length:Int) 0 2 0 0 0)=some (r1,r2,r3,r4):=h;clear h;have H':=mk0 H;clear H;go_enter Try.func54,Try.ntmps54;go_wp2_with (first|((with_reducible refine gate_dst (N:=2) rfl ?_);refine box_event ?hg (N:=2) ?hd (cs:=#[.int .i64 0,.int .i64 0,.int .i64 0,.int .i64 0]) (t:=67) ?hr ?_;(case hd=>rfl);(case hg=>rfl);(case hr=>first|(go_simp;done)|(go_simp;rfl));intro b2 hg w2 a4 hb;have J:=mk0 (a4);have h0:=szw hg Y;have a1:=h0;replace Y:=bst Y hb;clear hb a4 hg)|((with_reducible refine gate_dst (N:=3) rfl ?_);refine box_event ?hg (N:=3) ?hd (cs:=#[.int .i64 0,.int .i64 0,.int .i64 0,.int .i64 0]) (t:=67) ?hr ?_;(case hd=>rfl);(case hg=>rfl);(case hr=>first|(go_simp;done)|(go_simp;rfl));intro b9 hg w3 a4 hb;have B:=mk0 (a4);have h1:=szw hg Y;have a2:=h1;have L:=nlt hg J;have X:=ngt hg J;replace J:=bkb J hb;replace Y:=bst Y hb;clear hb a4 hg;have r5:=X.1;have r6:=L.1;have d0:=q0_ B;have d1:=q1_ B;have d2:=q2_ B;have d3:=q3_ B;have d4:=blk_frozen B.1 0;have d5:=blk_frozen B.1 1;have d6:=blk_frozen B.1 2;have d7:=blk_frozen B.1 3))
 go_loopg [10] k (fun kq o0 w'=>∃ (D:Int) (M:Int) (O:Int) (Q:Int) (R:Int),o0=.int .i64 D∧Aside0 (norm_product.l0 kq U (U.length:Int) D M O Q R=some (r1,r2,r3,r4))∧Aside0 (kq ≤ k)∧Aside0 (Q4_ w' b2 0 0 0 0 67)∧Aside0 (Q4_ w' b9 M O Q R 67)∧Aside0 (Below w.heap.size w w'))
 case atStart=>exact ⟨(0),(2),(0),(0),(0),(by first|rfl|(simp;done)|(simp [*];done)),H',⟨Nat.le_refl _⟩,⟨by (iterate 4 refine blk_far ?_ L.1 _);exact J.1⟩,⟨by refine blk_put (cs:=#[.int .i64 2,.int .i64 0,.int .i64 0,.int .i64 0]) ?_ 3 _ rfl;refine blk_put (cs:=#[.int .i64 2,.int .i64 0,.int .i64 0,.int .i64 0]) ?_ 2 _ rfl;refine blk_put (cs:=#[.int .i64 2,.int .i64 0,.int .i64 0,.int .i64 0]) ?_ 1 _ rfl;refine blk_put (cs:=#[.int .i64 0,.int .i64 0,.int .i64 0,.int .i64 0]) ?_ 0 _ rfl;exact B.1⟩,⟨by repeat (first|(with_reducible first|exact Y.1|apply below_alloc|apply pw_below_drewN|apply below_drew1|refine below_set ?_ a1.1|refine below_set ?_ a2.1)|exact Y.1)⟩⟩
 case round =>
  clear H';try clear p2
  try clear c4
  try clear c5
  try clear d0
  try clear d1
  try clear d2
  try clear d3
  try clear d4
  try clear d5
  try clear d6
  try clear d7
  obtain ⟨D,M,O,Q,R,rfl,HA,a9,J,B,Y⟩:=hrel;cases gk with
  | zero=>exact absurd HA.1 (by simp [norm_product.l0])
  | succ k1 =>
   have H:=HA.1;clear HA;simp only [norm_product.l0] at H
   by_cases c6:D < (U.length:Int)
   ·
    rw [if_pos c6] at H;have c6b0:decide (D < (U.length:Int))=true:=decide_eq_true c6;clear c6
    by_cases c7:0 ≤ D
    ·
     rw [if_pos c7] at H;have c7b0:decide (0 ≤ D)=true:=decide_eq_true c7;clear c7
     by_cases c8:D < (U.length:Int)
     ·
      rw [if_pos c8] at H;have c8b0:decide (D < (U.length:Int))=true:=decide_eq_true c8;clear c8;replace H:=Option.bind_eq_some_iff.mp H;obtain ⟨⟨b3,c2,d9,g9⟩,h5,H⟩:=H;(try dsimp only at H);have A9:=mk0 h5;clear h5;have H':=mk0 H;clear H;have c3:0 ≤ (D:Int):=of_decide_eq_true (by first|(with_reducible assumption)|assumption);have c9:D < (U.length:Int):=of_decide_eq_true (by first|(with_reducible assumption)|assumption);obtain ⟨o2,h6,a5,a6,a7,a8⟩:=at_T67 n9.1 D c3 c9;cases h6;replace a5:=(Y.1.cell (World.block_lt_of_cell? w _ a5)).trans a5;replace a6:=(Y.1.cell (World.block_lt_of_cell? w _ a6)).trans a6;replace a7:=(Y.1.cell (World.block_lt_of_cell? w _ a7)).trans a7;replace a8:=(Y.1.cell (World.block_lt_of_cell? w _ a8)).trans a8;replace c3:=eq_true c3;replace c9:=eq_true c9;go_wp2_with (first|((with_reducible refine gate_dst (N:=5) rfl ?_);refine box_event ?hg (N:=5) ?hd (cs:=#[.int .i64 0,.int .i64 0,.int .i64 0,.int .i64 0]) (t:=67) ?hr ?_;(case hd=>rfl);(case hg=>rfl);(case hr=>first|(go_simp;done)|(go_simp;rfl));intro e0 hg r9 a4 hb;have V:=mk0 (a4);have h2:=szw hg Y;have a3:=h2;have b1:=nlt hg J;have d8:=ngt hg J;have Z:=nlt hg B;have T:=ngt hg B;replace J:=bkb J hb;replace B:=bkb B hb;replace Y:=bst Y hb;clear hb a4 hg;have o3:=d8.1;have o4:=b1.1;have o5:=T.1;have o6:=Z.1;have e1:=q0_ V;have e2:=q1_ V;have e3:=q2_ V;have e4:=q3_ V;have e5:=blk_frozen V.1 0;have e6:=blk_frozen V.1 1;have e7:=blk_frozen V.1 2;have e8:=blk_frozen V.1 3;have o7:=X.1;have o8:=L.1;have e9:=q0_ B;have f4:=q1_ B;have f5:=q2_ B;have f6:=q3_ B;have f7:=blk_frozen B.1 0;have f8:=blk_frozen B.1 1;have f9:=blk_frozen B.1 2;have g0:=blk_frozen B.1 3)|((with_reducible refine gate_callee (f:=71) rfl ?_);refine goesL_ (some 16) rfl rfl Try.func71 (by kernel_rfl) rfl #[.agg #[.int .i64 M,.int .i64 O,.int .i64 Q,.int .i64 R],.agg #[.int .i64 ((rd_T67 U D).f0),.int .i64 ((rd_T67 U D).f1),.int .i64 ((rd_T67 U D).f2),.int .i64 ((rd_T67 U D).f3)]] rfl (by (try simp only [m0_,m1_,m2_]);first|done|rfl|(simp only [l0_,l1_];rfl)) ?_;(with_reducible refine (norm_quat_double.calls M O Q R ((rd_T67 U D).f0) ((rd_T67 U D).f1) ((rd_T67 U D).f2) ((rd_T67 U D).f3) b3 c2 d9 g9 _ A9.1).mono ?_);rintro e s0 ⟨rfl,hb⟩;refine ⟨_,rfl,?_⟩;replace J:=mk0 (blk_below (g:=b2) (o:=.cells #[.int .i64 0,.int .i64 0,.int .i64 0,.int .i64 0] 67 (0,0)) (by (iterate 4 refine blk_far ?_ b1.1 _);exact J.1) hb);replace B:=mk0 (blk_below (g:=b9) (o:=.cells #[.int .i64 M,.int .i64 O,.int .i64 Q,.int .i64 R] 67 (0,0)) (by (iterate 4 refine blk_far ?_ Z.1 _);exact B.1) hb);replace V:=mk0 (blk_below (g:=e0) (o:=.cells #[.int .i64 ((rd_T67 U D).f0),.int .i64 ((rd_T67 U D).f1),.int .i64 ((rd_T67 U D).f2),.int .i64 ((rd_T67 U D).f3)] 67 (0,0)) (by refine blk_put (cs:=#[.int .i64 ((rd_T67 U D).f0),.int .i64 ((rd_T67 U D).f1),.int .i64 ((rd_T67 U D).f2),.int .i64 0]) ?_ 3 _ rfl;refine blk_put (cs:=#[.int .i64 ((rd_T67 U D).f0),.int .i64 ((rd_T67 U D).f1),.int .i64 0,.int .i64 0]) ?_ 2 _ rfl;refine blk_put (cs:=#[.int .i64 ((rd_T67 U D).f0),.int .i64 0,.int .i64 0,.int .i64 0]) ?_ 1 _ rfl;refine blk_put (cs:=#[.int .i64 0,.int .i64 0,.int .i64 0,.int .i64 0]) ?_ 0 _ rfl;exact V.1) hb);replace Y:=mk0 (below_step (by repeat (with_reducible first|exact Y.1|refine below_set ?_ a1.1|refine below_set ?_ a2.1|refine below_set ?_ a3.1)) hb);(try clear hb);have g1:=q0_ B;have g2:=q1_ B;have g3:=q2_ B;have g4:=q3_ B;have g5:=blk_frozen B.1 0;have g6:=blk_frozen B.1 1;have g7:=blk_frozen B.1 2;have g8:=blk_frozen B.1 3))
      go_loopg [17] k1 (fun kq o1 w'=>∃ (a0:Int) (E:Int) (F:Int) (G:Int) (I:Int),o1=.int .i64 a0∧Aside0 (norm_product.l1 kq U (U.length:Int) D a0 E F G I=some (r1,r2,r3,r4))∧Aside0 (kq ≤ k1)∧Aside0 (Q4_ w' b2 0 0 0 0 67)∧Aside0 (Q4_ w' b9 E F G I 67)∧Aside0 (Q4_ w' e0 ((rd_T67 U D).f0) ((rd_T67 U D).f1) ((rd_T67 U D).f2) ((rd_T67 U D).f3) 67)∧Aside0 (Below w.heap.size w w'))
      case atStart=>exact ⟨(0),(b3),(c2),(d9),(g9),(by first|rfl|(simp;done)|(simp [*];done)),H',⟨Nat.le_refl _⟩,⟨by (iterate 4 refine blk_far ?_ L.1 _);exact J.1⟩,⟨by refine blk_put (cs:=#[.int .i64 b3,.int .i64 c2,.int .i64 d9,.int .i64 R]) ?_ 3 _ rfl;refine blk_put (cs:=#[.int .i64 b3,.int .i64 c2,.int .i64 Q,.int .i64 R]) ?_ 2 _ rfl;refine blk_put (cs:=#[.int .i64 b3,.int .i64 O,.int .i64 Q,.int .i64 R]) ?_ 1 _ rfl;refine blk_put (cs:=#[.int .i64 M,.int .i64 O,.int .i64 Q,.int .i64 R]) ?_ 0 _ rfl;exact B.1⟩,⟨by (iterate 4 refine blk_far ?_ T.1 _);exact V.1⟩,⟨by repeat (first|(with_reducible first|exact Y.1|apply below_alloc|apply pw_below_drewN|apply below_drew1|refine below_set ?_ a1.1|refine below_set ?_ a2.1|refine below_set ?_ a3.1)|exact Y.1)⟩⟩
      case round =>
       clear H';try clear c1
       try clear p1
       try clear q1
       try clear hx1
       try clear p2
       try clear c4
       try clear c5
       try clear c6
       try clear c6b0
       try clear c7
       try clear c7b0
       try clear c8
       try clear c8b0
       try clear c11
       try clear c12
       try clear p12
       try clear q12
       try clear hx12
       try clear c14
       try clear e1
       try clear e2
       try clear e3
       try clear e4
       try clear e9
       try clear f4
       try clear f5
       try clear f6
       try clear g1
       try clear g2
       try clear g3
       try clear g4
       try clear d0
       try clear d1
       try clear d2
       try clear d3
       try clear e5
       try clear e6
       try clear e7
       try clear e8
       try clear f7
       try clear f8
       try clear f9
       try clear g0
       try clear g5
       try clear g6
       try clear g7
       try clear g8
       try clear d4
       try clear d5
       try clear d6
       try clear d7
       try clear a5
       try clear a6
       try clear a7
       try clear a8
       try clear c3
       try clear p2
       try clear c9
       obtain ⟨a0,E,F,G,I,rfl,HA,b0,J,B,V,Y⟩:=hrel;cases gk with
       | zero=>exact absurd HA.1 (by simp [norm_product.l1])
       | succ k2 =>
        have H:=HA.1;clear HA;simp only [norm_product.l1] at H
        by_cases c18:a0 < 4
        ·
         rw [if_pos c18] at H;have c18b0:decide (a0 < 4)=true:=decide_eq_true c18;clear c18
         by_cases c19:a0=0
         ·
          subst c19;have H1:(norm_product.l1 k2 U (U.length:Int) D 1 (wrap64 (Int.tdiv E 2)) F G I)=some (r1,r2,r3,r4):=by (try rw [if_pos rfl] at H);first|exact H|simpa using H
          clear H;have H:=H1;clear H1;have H':=mk0 H;clear H;have o9:=X.1;have p0:=L.1;have p3:=Z.1;have p4:=T.1;have h7:=q0_ B;have h8:=q1_ B;have h9:=q2_ B;have i0:=q3_ B;have i1:=blk_frozen B.1 0;have i2:=blk_frozen B.1 1;have i3:=blk_frozen B.1 2;have i4:=blk_frozen B.1 3;go_wp2;go_roundg k2
          case measure=>have:=a9.1;have:=b0.1;omega
          case rel=>exact ⟨(1),(wrap64 (Int.tdiv E 2)),(F),(G),(I),(by first|rfl|(simp;done)|(simp [*];done)),H',⟨by have:=a9.1;have:=b0.1;omega⟩,⟨by refine blk_far ?_ L.1 _;exact J.1⟩,⟨by refine blk_put (cs:=#[.int .i64 E,.int .i64 F,.int .i64 G,.int .i64 I]) ?_ 0 _ rfl;exact B.1⟩,⟨by refine blk_far ?_ T.1 _;exact V.1⟩,⟨by repeat (first|(with_reducible first|exact Y.1|apply below_alloc|apply pw_below_drewN|apply below_drew1|refine below_set ?_ a1.1|refine below_set ?_ a2.1|refine below_set ?_ a3.1)|exact Y.1)⟩⟩
         ·
          rw [if_neg c19] at H
          by_cases c23:a0=1
          ·
           subst c23;have H1:(norm_product.l1 k2 U (U.length:Int) D 2 E (wrap64 (Int.tdiv F 2)) G I)=some (r1,r2,r3,r4):=by (try rw [if_pos rfl] at H);first|exact H|simpa using H
           clear H;have H:=H1;clear H1;have H':=mk0 H;clear H;have p5:=X.1;have p6:=L.1;have p7:=Z.1;have p8:=T.1;have i5:=q0_ B;have i6:=q1_ B;have i7:=q2_ B;have i8:=q3_ B;have i9:=blk_frozen B.1 0;have j0:=blk_frozen B.1 1;have j1:=blk_frozen B.1 2;have j2:=blk_frozen B.1 3;go_wp2;go_roundg k2
           case measure=>have:=a9.1;have:=b0.1;omega
           case rel=>exact ⟨(2),(E),(wrap64 (Int.tdiv F 2)),(G),(I),(by first|rfl|(simp;done)|(simp [*];done)),H',⟨by have:=a9.1;have:=b0.1;omega⟩,⟨by refine blk_far ?_ L.1 _;exact J.1⟩,⟨by refine blk_put (cs:=#[.int .i64 E,.int .i64 F,.int .i64 G,.int .i64 I]) ?_ 1 _ rfl;exact B.1⟩,⟨by refine blk_far ?_ T.1 _;exact V.1⟩,⟨by repeat (first|(with_reducible first|exact Y.1|apply below_alloc|apply pw_below_drewN|apply below_drew1|refine below_set ?_ a1.1|refine below_set ?_ a2.1|refine below_set ?_ a3.1)|exact Y.1)⟩⟩
          ·
           rw [if_neg c23] at H
           by_cases c27:a0=2
           ·
            subst c27;have H1:(norm_product.l1 k2 U (U.length:Int) D 3 E F (wrap64 (Int.tdiv G 2)) I)=some (r1,r2,r3,r4):=by (try rw [if_pos rfl] at H);first|exact H|simpa using H
            clear H;have H:=H1;clear H1;have H':=mk0 H;clear H;have p9:=X.1;have q0:=L.1;have q2:=Z.1;have q3:=T.1;have j3:=q0_ B;have j4:=q1_ B;have j5:=q2_ B;have j6:=q3_ B;have j7:=blk_frozen B.1 0;have j8:=blk_frozen B.1 1;have j9:=blk_frozen B.1 2;have l2:=blk_frozen B.1 3;go_wp2;go_roundg k2
            case measure=>have:=a9.1;have:=b0.1;omega
            case rel=>exact ⟨(3),(E),(F),(wrap64 (Int.tdiv G 2)),(I),(by first|rfl|(simp;done)|(simp [*];done)),H',⟨by have:=a9.1;have:=b0.1;omega⟩,⟨by refine blk_far ?_ L.1 _;exact J.1⟩,⟨by refine blk_put (cs:=#[.int .i64 E,.int .i64 F,.int .i64 G,.int .i64 I]) ?_ 2 _ rfl;exact B.1⟩,⟨by refine blk_far ?_ T.1 _;exact V.1⟩,⟨by repeat (first|(with_reducible first|exact Y.1|apply below_alloc|apply pw_below_drewN|apply below_drew1|refine below_set ?_ a1.1|refine below_set ?_ a2.1|refine below_set ?_ a3.1)|exact Y.1)⟩⟩
           ·
            rw [if_neg c27] at H
            by_cases c31:a0=3
            ·
             subst c31;have H1:(norm_product.l1 k2 U (U.length:Int) D 4 E F G (wrap64 (Int.tdiv I 2)))=some (r1,r2,r3,r4):=by (try rw [if_pos rfl] at H);first|exact H|simpa using H
             clear H;have H:=H1;clear H1;have H':=mk0 H;clear H;have q4:=X.1;have q5:=L.1;have q6:=Z.1;have q7:=T.1;have l3:=q0_ B;have l4:=q1_ B;have l5:=q2_ B;have l6:=q3_ B;have l7:=blk_frozen B.1 0;have l8:=blk_frozen B.1 1;have l9:=blk_frozen B.1 2;have m0:=blk_frozen B.1 3;go_wp2;go_roundg k2
             case measure=>have:=a9.1;have:=b0.1;omega
             case rel=>exact ⟨(4),(E),(F),(G),(wrap64 (Int.tdiv I 2)),(by first|rfl|(simp;done)|(simp [*];done)),H',⟨by have:=a9.1;have:=b0.1;omega⟩,⟨by refine blk_far ?_ L.1 _;exact J.1⟩,⟨by refine blk_put (cs:=#[.int .i64 E,.int .i64 F,.int .i64 G,.int .i64 I]) ?_ 3 _ rfl;exact B.1⟩,⟨by refine blk_far ?_ T.1 _;exact V.1⟩,⟨by repeat (first|(with_reducible first|exact Y.1|apply below_alloc|apply pw_below_drewN|apply below_drew1|refine below_set ?_ a1.1|refine below_set ?_ a2.1|refine below_set ?_ a3.1)|exact Y.1)⟩⟩
            ·
             rw [if_neg c31] at H;exact absurd H (by simp)
        ·
         rw [if_neg c18] at H;have c18b0:decide (a0 < 4)=false:=decide_eq_false c18;clear c18;have H':=mk0 H;clear H;go_wp2;go_roundg k2
         case measure=>have:=a9.1;have:=b0.1;omega
         case rel=>exact ⟨(wrap64 (D + 1)),(E),(F),(G),(I),(by first|rfl|(simp;done)|(simp [*];done)),H',⟨by have:=a9.1;have:=b0.1;omega⟩,⟨by exact J.1⟩,⟨by exact B.1⟩,⟨by repeat (first|(with_reducible first|exact Y.1|apply below_alloc|apply pw_below_drewN|apply below_drew1|refine below_set ?_ a1.1|refine below_set ?_ a2.1|refine below_set ?_ a3.1)|exact Y.1)⟩⟩
     ·
      rw [if_neg c8] at H;exact absurd H (by simp)
    ·
     rw [if_neg c7] at H;exact absurd H (by simp)
   ·
    rw [if_neg c6] at H;have c6b0:decide (D < (U.length:Int))=false:=decide_eq_false c6;clear c6;simp only [Option.some.injEq,Prod.mk.injEq] at H;obtain ⟨rfl,rfl,rfl,rfl⟩:=H;have q8:=X.1;have q9:=L.1;have m1:=q0_ B;have m2:=q1_ B;have m3:=q2_ B;have m4:=q3_ B;have m5:=blk_frozen B.1 0;have m6:=blk_frozen B.1 1;have m7:=blk_frozen B.1 2;have m8:=blk_frozen B.1 3;have m9:=q0_ J;have n0:=q1_ J;have n1:=q2_ J;have n2:=q3_ J;have n3:=blk_frozen J.1 0;have n4:=blk_frozen J.1 1;have n5:=blk_frozen J.1 2;have n6:=blk_frozen J.1 3;go_wp2;refine bodyPost_ret (results_cell_row rfl _ _ b2 67 #[.int .i64 M,.int .i64 O,.int .i64 Q,.int .i64 R] (0,0) _ rfl (by refine blk_put (cs:=#[.int .i64 M,.int .i64 O,.int .i64 Q,.int .i64 0]) ?_ 3 _ rfl;refine blk_put (cs:=#[.int .i64 M,.int .i64 O,.int .i64 0,.int .i64 0]) ?_ 2 _ rfl;refine blk_put (cs:=#[.int .i64 M,.int .i64 0,.int .i64 0,.int .i64 0]) ?_ 1 _ rfl;refine blk_put (cs:=#[.int .i64 0,.int .i64 0,.int .i64 0,.int .i64 0]) ?_ 0 _ rfl;exact J.1) Try.underlying67 rfl (by kernel_rfl)) rfl ?_;exact ⟨by first|rfl|(simp [errW_none,errW_some] <;> rfl)|(simp [*,errW_none,errW_some] <;> rfl),by repeat (first|(with_reducible first|exact Y.1|apply below_alloc|apply pw_below_drewN|apply below_drew1|refine below_set ?_ a1.1|refine below_set ?_ a2.1)|exact Y.1)⟩
/-! ### cmp_isNaN_int: function 79 -/
def cmp_isNaN_int.f (a0:Int):Option (Bool):=some (a0 != a0)
set_option maxHeartbeats 8000000 in
set_option maxRecDepth 100000 in
theorem cmp_isNaN_int.calls (a0:Int) (r:Bool) (w:World) (h:cmp_isNaN_int.f a0=some r) :
    Calls Try.prog 79 #[.int .i64 a0] w fun e w'=>e=.returned (.bool r)∧Drawn0 w w':=by
 have H:(some (a0 != a0))=some r:=h;clear h;obtain rfl:=Option.some.inj H;go_enter Try.func79,Try.ntmps79;go_wp2;go_ret;exact ⟨by first|rfl|(simp;done)|(simp [*];done),by repeat (first|exact Drawn0.refl _|apply Drawn0.step)⟩
/-! ### cmp_Compare_int: function 74 -/
def cmp_Compare_int.f (a0:Int) (a1:Int):Option (Int):=(cmp_isNaN_int.f a0).bind fun t135=>((cmp_isNaN_int.f a1).bind fun t136=>(if t135=true then (if t136=true then (some 0) else (some (-1))) else (if t136=true then (some 1) else (if a0 < a1 then (some (-1)) else (if a0 > a1 then (some 1) else (some 0))))))
set_option maxHeartbeats 8000000 in
set_option maxRecDepth 100000 in
theorem cmp_Compare_int.calls (B:Int) (C:Int) (r:Int) (w:World) (h:cmp_Compare_int.f B C=some r) :
    Calls Try.prog 74 #[.int .i64 B,.int .i64 C] w fun e w'=>e=.returned (.int .i64 r)∧Drawn0 w w':=by
 have H:((cmp_isNaN_int.f B).bind fun F=>((cmp_isNaN_int.f C).bind fun E=>(if F=true then (if E=true then (some 0) else (some (-1))) else (if E=true then (some 1) else (if B < C then (some (-1)) else (if B > C then (some 1) else (some 0)))))))=some r:=h;clear h;replace H:=Option.bind_eq_some_iff.mp H;obtain ⟨F,N,H⟩:=H;(try dsimp only at H);have G:=mk0 N;clear N;replace H:=Option.bind_eq_some_iff.mp H;obtain ⟨E,O,H⟩:=H;(try dsimp only at H);have I:=mk0 O;clear O
 by_cases J:F=true
 ·
  subst J;have D:(if E=true then (some 0) else (some (-1)))=some r:=by rw [if_pos rfl] at H;exact H
  clear H;have H:=D;clear D
  by_cases L:E=true
  ·
   subst L;have D:(some 0)=some r:=by rw [if_pos rfl] at H;exact H
   clear H;have H:=D;clear D;obtain rfl:=Option.some.inj H;go_enter Try.func74,Try.ntmps74;go_wp2_with (first|((with_reducible refine gate_callee (f:=79) rfl ?_);refine goesL_ (some 8) rfl rfl Try.func79 (by kernel_rfl) rfl #[.int .i64 B] rfl (by (try simp only [m0_,m1_,m2_]);first|done|rfl|(simp only [l0_,l1_];rfl)) ?_;(with_reducible refine (cmp_isNaN_int.calls B true _ G.1).mono ?_);rintro e w' ⟨rfl,⟨nd,rfl⟩⟩;refine ⟨_,rfl,?_⟩)|((with_reducible refine gate_callee (f:=79) rfl ?_);refine goesL_ (some 10) rfl rfl Try.func79 (by kernel_rfl) rfl #[.int .i64 C] rfl (by (try simp only [m0_,m1_,m2_]);first|done|rfl|(simp only [l0_,l1_];rfl)) ?_;(with_reducible refine (cmp_isNaN_int.calls C true _ I.1).mono ?_);rintro e w' ⟨rfl,⟨nd,rfl⟩⟩;refine ⟨_,rfl,?_⟩));go_ret;exact ⟨by first|rfl|(simp;done)|(simp [*];done),by repeat (first|exact Drawn0.refl _|apply Drawn0.step)⟩
  ·
   replace L:=Bool.eq_false_iff.mpr L;subst L;have D:(some (-1))=some r:=by rw [if_neg (show ¬ (false=true) by decide)] at H;exact H
   clear H;have H:=D;clear D;obtain rfl:=Option.some.inj H;go_enter Try.func74,Try.ntmps74;go_wp2_with (first|((with_reducible refine gate_callee (f:=79) rfl ?_);refine goesL_ (some 8) rfl rfl Try.func79 (by kernel_rfl) rfl #[.int .i64 B] rfl (by (try simp only [m0_,m1_,m2_]);first|done|rfl|(simp only [l0_,l1_];rfl)) ?_;(with_reducible refine (cmp_isNaN_int.calls B true _ G.1).mono ?_);rintro e w' ⟨rfl,⟨nd,rfl⟩⟩;refine ⟨_,rfl,?_⟩)|((with_reducible refine gate_callee (f:=79) rfl ?_);refine goesL_ (some 10) rfl rfl Try.func79 (by kernel_rfl) rfl #[.int .i64 C] rfl (by (try simp only [m0_,m1_,m2_]);first|done|rfl|(simp only [l0_,l1_];rfl)) ?_;(with_reducible refine (cmp_isNaN_int.calls C false _ I.1).mono ?_);rintro e w' ⟨rfl,⟨nd,rfl⟩⟩;refine ⟨_,rfl,?_⟩));go_ret;exact ⟨by first|rfl|(simp;done)|(simp [*];done),by repeat (first|exact Drawn0.refl _|apply Drawn0.step)⟩
 ·
  replace J:=Bool.eq_false_iff.mpr J;subst J;have D:(if E=true then (some 1) else (if B < C then (some (-1)) else (if B > C then (some 1) else (some 0))))=some r:=by rw [if_neg (show ¬ (false=true) by decide)] at H;exact H
  clear H;have H:=D;clear D
  by_cases M:E=true
  ·
   subst M;have D:(some 1)=some r:=by rw [if_pos rfl] at H;exact H
   clear H;have H:=D;clear D;obtain rfl:=Option.some.inj H;go_enter Try.func74,Try.ntmps74;go_wp2_with (first|((with_reducible refine gate_callee (f:=79) rfl ?_);refine goesL_ (some 8) rfl rfl Try.func79 (by kernel_rfl) rfl #[.int .i64 B] rfl (by (try simp only [m0_,m1_,m2_]);first|done|rfl|(simp only [l0_,l1_];rfl)) ?_;(with_reducible refine (cmp_isNaN_int.calls B false _ G.1).mono ?_);rintro e w' ⟨rfl,⟨nd,rfl⟩⟩;refine ⟨_,rfl,?_⟩)|((with_reducible refine gate_callee (f:=79) rfl ?_);refine goesL_ (some 10) rfl rfl Try.func79 (by kernel_rfl) rfl #[.int .i64 C] rfl (by (try simp only [m0_,m1_,m2_]);first|done|rfl|(simp only [l0_,l1_];rfl)) ?_;(with_reducible refine (cmp_isNaN_int.calls C true _ I.1).mono ?_);rintro e w' ⟨rfl,⟨nd,rfl⟩⟩;refine ⟨_,rfl,?_⟩));go_ret;exact ⟨by first|rfl|(simp;done)|(simp [*];done),by repeat (first|exact Drawn0.refl _|apply Drawn0.step)⟩
  ·
   replace M:=Bool.eq_false_iff.mpr M;subst M;have D:(if B < C then (some (-1)) else (if B > C then (some 1) else (some 0)))=some r:=by rw [if_neg (show ¬ (false=true) by decide)] at H;exact H
   clear H;have H:=D;clear D
   by_cases c8:B < C
   ·
    rw [if_pos c8] at H;have c8b0:decide (B < C)=true:=decide_eq_true c8;clear c8;obtain rfl:=Option.some.inj H;go_enter Try.func74,Try.ntmps74;go_wp2_with (first|((with_reducible refine gate_callee (f:=79) rfl ?_);refine goesL_ (some 8) rfl rfl Try.func79 (by kernel_rfl) rfl #[.int .i64 B] rfl (by (try simp only [m0_,m1_,m2_]);first|done|rfl|(simp only [l0_,l1_];rfl)) ?_;(with_reducible refine (cmp_isNaN_int.calls B false _ G.1).mono ?_);rintro e w' ⟨rfl,⟨nd,rfl⟩⟩;refine ⟨_,rfl,?_⟩)|((with_reducible refine gate_callee (f:=79) rfl ?_);refine goesL_ (some 10) rfl rfl Try.func79 (by kernel_rfl) rfl #[.int .i64 C] rfl (by (try simp only [m0_,m1_,m2_]);first|done|rfl|(simp only [l0_,l1_];rfl)) ?_;(with_reducible refine (cmp_isNaN_int.calls C false _ I.1).mono ?_);rintro e w' ⟨rfl,⟨nd,rfl⟩⟩;refine ⟨_,rfl,?_⟩));go_ret;exact ⟨by first|rfl|(simp;done)|(simp [*];done),by repeat (first|exact Drawn0.refl _|apply Drawn0.step)⟩
   ·
    rw [if_neg c8] at H;have c8b0:decide (B < C)=false:=decide_eq_false c8;clear c8
    by_cases c9:B > C
    ·
     rw [if_pos c9] at H;have c9b0:decide (C < B)=true:=decide_eq_true c9;clear c9;obtain rfl:=Option.some.inj H;go_enter Try.func74,Try.ntmps74;go_wp2_with (first|((with_reducible refine gate_callee (f:=79) rfl ?_);refine goesL_ (some 8) rfl rfl Try.func79 (by kernel_rfl) rfl #[.int .i64 B] rfl (by (try simp only [m0_,m1_,m2_]);first|done|rfl|(simp only [l0_,l1_];rfl)) ?_;(with_reducible refine (cmp_isNaN_int.calls B false _ G.1).mono ?_);rintro e w' ⟨rfl,⟨nd,rfl⟩⟩;refine ⟨_,rfl,?_⟩)|((with_reducible refine gate_callee (f:=79) rfl ?_);refine goesL_ (some 10) rfl rfl Try.func79 (by kernel_rfl) rfl #[.int .i64 C] rfl (by (try simp only [m0_,m1_,m2_]);first|done|rfl|(simp only [l0_,l1_];rfl)) ?_;(with_reducible refine (cmp_isNaN_int.calls C false _ I.1).mono ?_);rintro e w' ⟨rfl,⟨nd,rfl⟩⟩;refine ⟨_,rfl,?_⟩));go_ret;exact ⟨by first|rfl|(simp;done)|(simp [*];done),by repeat (first|exact Drawn0.refl _|apply Drawn0.step)⟩
    ·
     rw [if_neg c9] at H;have c9b0:decide (C < B)=false:=decide_eq_false c9;clear c9;obtain rfl:=Option.some.inj H;go_enter Try.func74,Try.ntmps74;go_wp2_with (first|((with_reducible refine gate_callee (f:=79) rfl ?_);refine goesL_ (some 8) rfl rfl Try.func79 (by kernel_rfl) rfl #[.int .i64 B] rfl (by (try simp only [m0_,m1_,m2_]);first|done|rfl|(simp only [l0_,l1_];rfl)) ?_;(with_reducible refine (cmp_isNaN_int.calls B false _ G.1).mono ?_);rintro e w' ⟨rfl,⟨nd,rfl⟩⟩;refine ⟨_,rfl,?_⟩)|((with_reducible refine gate_callee (f:=79) rfl ?_);refine goesL_ (some 10) rfl rfl Try.func79 (by kernel_rfl) rfl #[.int .i64 C] rfl (by (try simp only [m0_,m1_,m2_]);first|done|rfl|(simp only [l0_,l1_];rfl)) ?_;(with_reducible refine (cmp_isNaN_int.calls C false _ I.1).mono ?_);rintro e w' ⟨rfl,⟨nd,rfl⟩⟩;refine ⟨_,rfl,?_⟩));go_ret;exact ⟨by first|rfl|(simp;done)|(simp [*];done),by repeat (first|exact Drawn0.refl _|apply Drawn0.step)⟩
/-! ### slices_Compare_int_int: function 55 -/
def slices_Compare_int_int.l0:Nat → List Int → List Int → List Int → Int → Int → Option (Int)
  | 0,_,_,_,_,_=>none
  | k + 1,x0,x1,x9,x10,x11=>if x11 < x10 then (if 0 ≤ x11 then (if x11 < (x9.length:Int) then (if x11 ≥ (x1.length:Int) then (some 1) else (if x11 < (x1.length:Int) then ((cmp_Compare_int.f (rd x9 x11) (rd x1 x11)).bind fun t139=>(if t139=0 then (slices_Compare_int_int.l0 k x0 x1 x9 x10 (wrap64 (x11 + 1))) else (some t139))) else (none))) else (none)) else (none)) else (if (x0.length:Int) < (x1.length:Int) then (some (-1)) else (some 0))
def slices_Compare_int_int.f (k:Nat) (l0:List Int) (l1:List Int):Option (Int):=slices_Compare_int_int.l0 k l0 l1 l0 (l0.length:Int) 0
theorem slices_Compare_int_int.mono_l:∀ k,(∀ y0 y1 y2 y3 y4,LeO (slices_Compare_int_int.l0 k y0 y1 y2 y3 y4) (slices_Compare_int_int.l0 (k + 1) y0 y1 y2 y3 y4))
  | 0=>fun _ _ _ _ _ r h=>by simp [slices_Compare_int_int.l0] at h
  | k + 1=>by
    have ih0:=slices_Compare_int_int.mono_l k
    · intro y0 y1 y2 y3 y4
      unfold slices_Compare_int_int.l0
      with_reducible repeat' first|exact ih0 _ _ _ _ _|exact LeO.refl _|exact LeO.none _|refine LeO.ite ?_ ?_|refine LeO.bind ?_ (fun _=>?_)
theorem slices_Compare_int_int.mono:∀ a0 a1 k,LeO (slices_Compare_int_int.f k a0 a1) (slices_Compare_int_int.f (k + 1) a0 a1):=by
  intro a0 a1 k
  have ih0:=slices_Compare_int_int.mono_l k
  unfold slices_Compare_int_int.f
  with_reducible repeat' first|exact ih0 _ _ _ _ _|exact LeO.refl _|exact LeO.none _|refine LeO.ite ?_ ?_|refine LeO.bind ?_ (fun _=>?_)
set_option maxHeartbeats 8000000 in
set_option maxRecDepth 100000 in
theorem slices_Compare_int_int.calls (k:Nat) (A0:Option Addr) (c0:Nat) (D:List Int) (A1:Option Addr) (c1:Nat) (E:List Int) (r:Int) (w:World) (V:Kd.C (Kd.int .i64) w A0 D.length D) (X:D.length ≤ c0) (Y:Kd.C (Kd.int .i64) w A1 E.length E) (Z:E.length ≤ c1) (h:slices_Compare_int_int.f k D E=some r) :
    Calls Try.prog 55 #[.slice A0 D.length c0,.slice A1 E.length c1] w fun e w'=>e=.returned (.int .i64 r)∧Drawn0 w w':=by
 have T:=mk0 V;have a9:=mk0 X;clear V X;have a0:=mk0 Y;have b0:=mk0 Z;clear Y Z;have H:(slices_Compare_int_int.l0 k D E D (D.length:Int) 0)=some r:=h;clear h;have H':=mk0 H;clear H;go_enter Try.func55,Try.ntmps55;go_wp2
 go_loopg [11] k (fun kq a7 w'=>∃ (B:Int),a7=.int .i64 B∧Aside0 (slices_Compare_int_int.l0 kq D E D (D.length:Int) B=some r)∧Aside0 (kq ≤ k)∧Drawn0 w w')
 case atStart=>exact ⟨(0),(by first|rfl|(simp;done)|(simp [*];done)),H',⟨Nat.le_refl _⟩,by repeat (first|exact Drawn0.refl _|apply Drawn0.step)⟩
 case round =>
  clear H';try clear c1
  try clear p2
  obtain ⟨B,rfl,HA,a1,⟨m1,rfl⟩⟩:=hrel;cases gk with
  | zero=>exact absurd HA.1 (by simp [slices_Compare_int_int.l0])
  | succ k1 =>
   have H:=HA.1;clear HA;simp only [slices_Compare_int_int.l0] at H
   by_cases c3:B < (D.length:Int)
   ·
    rw [if_pos c3] at H;have c3b0:decide (B < (D.length:Int))=true:=decide_eq_true c3;clear c3
    by_cases c4:0 ≤ B
    ·
     rw [if_pos c4] at H;have c4b0:decide (0 ≤ B)=true:=decide_eq_true c4;clear c4
     by_cases c5:B < (D.length:Int)
     ·
      rw [if_pos c5] at H;have c5b0:decide (B < (D.length:Int))=true:=decide_eq_true c5;clear c5
      by_cases c6:B ≥ (E.length:Int)
      ·
       rw [if_pos c6] at H;have c6b0:decide ((E.length:Int) ≤ B)=true:=decide_eq_true c6;clear c6;obtain rfl:=Option.some.inj H;have F:0 ≤ (B:Int):=of_decide_eq_true (by first|(with_reducible assumption)|assumption);have G:B < (D.length:Int):=of_decide_eq_true (by first|(with_reducible assumption)|assumption);obtain ⟨Q,M,N⟩:=Kd.at_int T.1 B F G;cases M;replace F:=eq_true F;replace G:=eq_true G;go_wp2;go_ret;exact ⟨by first|rfl|(simp;done)|(simp [*];done),by repeat (first|exact Drawn0.refl _|apply Drawn0.step)⟩
      ·
       rw [if_neg c6] at H;have c6b0:decide ((E.length:Int) ≤ B)=false:=decide_eq_false c6;clear c6
       by_cases c7:B < (E.length:Int)
       ·
        rw [if_pos c7] at H;have c7b0:decide (B < (E.length:Int))=true:=decide_eq_true c7;clear c7;replace H:=Option.bind_eq_some_iff.mp H;obtain ⟨I,a2,H⟩:=H;(try dsimp only at H);have A8:=mk0 a2;clear a2
        by_cases c9:I=0
        ·
         rw [if_pos c9] at H;have c9b0:(I == 0)=true:=beq_iff_eq.mpr c9;have c9b1:(I != 0)=false:=bne_eq_false_iff_eq.mpr c9;clear c9;have H':=mk0 H;clear H;have F:0 ≤ (B:Int):=of_decide_eq_true (by first|(with_reducible assumption)|assumption);have G:B < (D.length:Int):=of_decide_eq_true (by first|(with_reducible assumption)|assumption);obtain ⟨Q,M,N⟩:=Kd.at_int T.1 B F G;cases M;replace F:=eq_true F;replace G:=eq_true G;have J:0 ≤ (B:Int):=of_decide_eq_true (by first|(with_reducible assumption)|assumption);have L:B < (E.length:Int):=of_decide_eq_true (by first|(with_reducible assumption)|assumption);obtain ⟨U,O,R⟩:=Kd.at_int a0.1 B J L;cases O;replace J:=eq_true J;replace L:=eq_true L;go_wp2_with (first|((with_reducible refine gate_callee (f:=74) rfl ?_);refine goesL_ (some 26) rfl rfl Try.func74 (by kernel_rfl) rfl #[.int .i64 (rd D B),.int .i64 (rd E B)] rfl (by (try simp only [m0_,m1_,m2_]);first|done|rfl|(simp only [l0_,l1_];rfl)) ?_;(with_reducible refine (cmp_Compare_int.calls (rd D B) (rd E B) I _ A8.1).mono ?_);rintro e w' ⟨rfl,⟨nd,rfl⟩⟩;refine ⟨_,rfl,?_⟩));go_roundg k1
         case measure=>have:=a1.1;omega
         case rel=>exact ⟨(wrap64 (B + 1)),(by first|rfl|(simp;done)|(simp [*];done)),H',⟨by have:=a1.1;omega⟩,by repeat (first|exact Drawn0.refl _|apply Drawn0.step)⟩
        ·
         rw [if_neg c9] at H;have c9b0:(I == 0)=false:=beq_eq_false_iff_ne.mpr c9;have c9b1:(I != 0)=true:=bne_iff_ne.mpr c9;obtain rfl:=Option.some.inj H;have F:0 ≤ (B:Int):=of_decide_eq_true (by first|(with_reducible assumption)|assumption);have G:B < (D.length:Int):=of_decide_eq_true (by first|(with_reducible assumption)|assumption);obtain ⟨Q,M,N⟩:=Kd.at_int T.1 B F G;cases M;replace F:=eq_true F;replace G:=eq_true G;have J:0 ≤ (B:Int):=of_decide_eq_true (by first|(with_reducible assumption)|assumption);have L:B < (E.length:Int):=of_decide_eq_true (by first|(with_reducible assumption)|assumption);obtain ⟨U,O,R⟩:=Kd.at_int a0.1 B J L;cases O;replace J:=eq_true J;replace L:=eq_true L;go_wp2_with (first|((with_reducible refine gate_callee (f:=74) rfl ?_);refine goesL_ (some 26) rfl rfl Try.func74 (by kernel_rfl) rfl #[.int .i64 (rd D B),.int .i64 (rd E B)] rfl (by (try simp only [m0_,m1_,m2_]);first|done|rfl|(simp only [l0_,l1_];rfl)) ?_;(with_reducible refine (cmp_Compare_int.calls (rd D B) (rd E B) I _ A8.1).mono ?_);rintro e w' ⟨rfl,⟨nd,rfl⟩⟩;refine ⟨_,rfl,?_⟩));go_ret;exact ⟨by first|rfl|(simp;done)|(simp [*];done),by repeat (first|exact Drawn0.refl _|apply Drawn0.step)⟩
       ·
        rw [if_neg c7] at H;exact absurd H (by simp)
     ·
      rw [if_neg c5] at H;exact absurd H (by simp)
    ·
     rw [if_neg c4] at H;exact absurd H (by simp)
   ·
    rw [if_neg c3] at H;have c3b0:decide (B < (D.length:Int))=false:=decide_eq_false c3;clear c3
    by_cases c10:(D.length:Int) < (E.length:Int)
    ·
     rw [if_pos c10] at H;have c10b0:decide ((D.length:Int) < (E.length:Int))=true:=decide_eq_true c10;have c10b1:decide (D.length < E.length)=true:=decide_eq_true (Int.ofNat_lt.mp c10);clear c10;obtain rfl:=Option.some.inj H;go_wp2;go_ret;exact ⟨by first|rfl|(simp;done)|(simp [*];done),by repeat (first|exact Drawn0.refl _|apply Drawn0.step)⟩
    ·
     rw [if_neg c10] at H;have c10b0:decide ((D.length:Int) < (E.length:Int))=false:=decide_eq_false c10;have c10b1:decide (D.length < E.length)=false:=decide_eq_false (fun h=>c10 (Int.ofNat_lt.mpr h));clear c10;obtain rfl:=Option.some.inj H;go_wp2;go_ret;exact ⟨by first|rfl|(simp;done)|(simp [*];done),by repeat (first|exact Drawn0.refl _|apply Drawn0.step)⟩
/-! ### norm_quat_conj: function 65 -/
def norm_quat_conj.f (a0_0:Int) (a0_1:Int) (a0_2:Int) (a0_3:Int):Option (Int × Int × Int × Int):=some (a0_0,wrap64 (-a0_1),wrap64 (-a0_2),wrap64 (-a0_3))
set_option maxHeartbeats 8000000 in
set_option maxRecDepth 100000 in
theorem norm_quat_conj.calls (D:Int) (E:Int) (F:Int) (G:Int) (V:Int) (X:Int) (Y:Int) (Z:Int) (w:World) (h:norm_quat_conj.f D E F G=some (V,X,Y,Z)) :
    Calls Try.prog 65 #[.agg #[.int .i64 D,.int .i64 E,.int .i64 F,.int .i64 G]] w fun e w'=>e=.returned (.agg #[.int .i64 V,.int .i64 X,.int .i64 Y,.int .i64 Z])∧Below w.heap.size w w':=by
 have b7:=Try.underlying67;have J:=mk0 (Below.refl w.heap.size w);have H:(some (D,wrap64 (-E),wrap64 (-F),wrap64 (-G)))=some (V,X,Y,Z):=h;clear h;simp only [Option.some.injEq,Prod.mk.injEq] at H;obtain ⟨rfl,rfl,rfl,rfl⟩:=H;go_enter Try.func65,Try.ntmps65;go_wp2_with (first|((with_reducible refine gate_dst (N:=1) rfl ?_);refine box_event ?hg (N:=1) ?hd (cs:=#[.int .i64 D,.int .i64 E,.int .i64 F,.int .i64 G]) (t:=67) ?hr ?_;(case hd=>rfl);(case hg=>rfl);(case hr=>first|(go_simp;done)|(go_simp;rfl));intro b6 hg w2 I hb;have B:=mk0 (I);have O:=szw hg J;have Q:=O;replace J:=bst J hb;clear hb I hg)|((with_reducible refine gate_dst (N:=2) rfl ?_);refine box_event ?hg (N:=2) ?hd (cs:=#[.int .i64 0,.int .i64 0,.int .i64 0,.int .i64 0]) (t:=67) ?hr ?_;(case hd=>rfl);(case hg=>rfl);(case hr=>first|(go_simp;done)|(go_simp;rfl));intro R hg w3 I hb;have C:=mk0 (I);have T:=szw hg J;have U:=T;have L:=nlt hg B;have M:=ngt hg B;replace B:=bkb B hb;replace J:=bst J hb;clear hb I hg;have b8:=L.1;have b9:=M.1;have a0:=q0_ B;have a1:=q1_ B;have a2:=q2_ B;have a3:=q3_ B;have a4:=blk_frozen B.1 0;have a5:=blk_frozen B.1 1;have a6:=blk_frozen B.1 2;have a7:=blk_frozen B.1 3;have a8:=q0_ C;have a9:=q1_ C;have b0:=q2_ C;have b1:=q3_ C;have b2:=blk_frozen C.1 0;have b3:=blk_frozen C.1 1;have b4:=blk_frozen C.1 2;have b5:=blk_frozen C.1 3));refine bodyPost_ret (results_cell_row rfl _ _ R 67 #[.int .i64 D,.int .i64 (wrap64 (-E)),.int .i64 (wrap64 (-F)),.int .i64 (wrap64 (-G))] (0,0) _ rfl (by refine blk_put (cs:=#[.int .i64 D,.int .i64 (wrap64 (-E)),.int .i64 (wrap64 (-F)),.int .i64 0]) ?_ 3 _ rfl;refine blk_put (cs:=#[.int .i64 D,.int .i64 (wrap64 (-E)),.int .i64 0,.int .i64 0]) ?_ 2 _ rfl;refine blk_put (cs:=#[.int .i64 D,.int .i64 0,.int .i64 0,.int .i64 0]) ?_ 1 _ rfl;refine blk_put (cs:=#[.int .i64 0,.int .i64 0,.int .i64 0,.int .i64 0]) ?_ 0 _ rfl;exact C.1) Try.underlying67 rfl (by kernel_rfl)) rfl ?_;exact ⟨by first|rfl|(simp [errW_none,errW_some] <;> rfl)|(simp [*,errW_none,errW_some] <;> rfl),by repeat (first|(with_reducible first|exact J.1|apply below_alloc|apply pw_below_drewN|apply below_drew1|refine below_set ?_ Q.1|refine below_set ?_ U.1)|exact J.1)⟩
/-! ### norm_quat_norm: function 66 -/
def norm_quat_norm.f (a0_0:Int) (a0_1:Int) (a0_2:Int) (a0_3:Int):Option (Int):=some (wrap64 (Int.tdiv (wrap64 ((wrap64 ((wrap64 ((wrap64 (a0_0 * a0_0)) + (wrap64 (a0_1 * a0_1)))) + (wrap64 (a0_2 * a0_2)))) + (wrap64 (a0_3 * a0_3)))) 4))
set_option maxHeartbeats 8000000 in
set_option maxRecDepth 100000 in
theorem norm_quat_norm.calls (C:Int) (D:Int) (E:Int) (F:Int) (r:Int) (w:World) (h:norm_quat_norm.f C D E F=some r) :
    Calls Try.prog 66 #[.agg #[.int .i64 C,.int .i64 D,.int .i64 E,.int .i64 F]] w fun e w'=>e=.returned (.int .i64 r)∧Below w.heap.size w w':=by
 have Z:=Try.underlying67;have G:=mk0 (Below.refl w.heap.size w);have H:(some (wrap64 (Int.tdiv (wrap64 ((wrap64 ((wrap64 ((wrap64 (C * C)) + (wrap64 (D * D)))) + (wrap64 (E * E)))) + (wrap64 (F * F)))) 4)))=some r:=h;clear h;obtain rfl:=Option.some.inj H;go_enter Try.func66,Try.ntmps66;go_wp2_with (first|((with_reducible refine gate_dst (N:=1) rfl ?_);refine box_event ?hg (N:=1) ?hd (cs:=#[.int .i64 C,.int .i64 D,.int .i64 E,.int .i64 F]) (t:=67) ?hr ?_;(case hd=>rfl);(case hg=>rfl);(case hr=>first|(go_simp;done)|(go_simp;rfl));intro Y hg w2 I hb;have B:=mk0 (I);have J:=szw hg G;have L:=J;replace G:=bst G hb;clear hb I hg;have M:=q0_ B;have O:=q1_ B;have Q:=q2_ B;have R:=q3_ B;have T:=blk_frozen B.1 0;have U:=blk_frozen B.1 1;have V:=blk_frozen B.1 2;have X:=blk_frozen B.1 3));go_ret;exact ⟨by first|rfl|(simp [errW_none,errW_some] <;> rfl)|(simp [*,errW_none,errW_some] <;> rfl),by repeat (first|(with_reducible first|exact G.1|apply below_alloc|apply pw_below_drewN|apply below_drew1|refine below_set ?_ L.1)|exact G.1)⟩
/-! ### norm_floor: function 78 -/
def norm_floor.f (a0:Int) (a1:Int):Option (Int):=if a1=0 then (none) else (if (Int.tmod a0 a1)=0 then (some (wrap64 (Int.tdiv a0 a1))) else (if a0 < 0 then (some (wrap64 ((wrap64 (Int.tdiv a0 a1)) - 1))) else (some (wrap64 (Int.tdiv a0 a1)))))
set_option maxHeartbeats 8000000 in
set_option maxRecDepth 100000 in
theorem norm_floor.calls (B:Int) (C:Int) (r:Int) (w:World) (h:norm_floor.f B C=some r) :
    Calls Try.prog 78 #[.int .i64 B,.int .i64 C] w fun e w'=>e=.returned (.int .i64 r)∧Drawn0 w w':=by
 have H:(if C=0 then (none) else (if (Int.tmod B C)=0 then (some (wrap64 (Int.tdiv B C))) else (if B < 0 then (some (wrap64 ((wrap64 (Int.tdiv B C)) - 1))) else (some (wrap64 (Int.tdiv B C))))))=some r:=h;clear h
 by_cases c3:C=0
 ·
  rw [if_pos c3] at H;exact absurd H (by simp)
 ·
  rw [if_neg c3] at H;have c3b0:(C == 0)=false:=beq_eq_false_iff_ne.mpr c3;have c3b1:(C != 0)=true:=bne_iff_ne.mpr c3
  by_cases c4:(Int.tmod B C)=0
  ·
   rw [if_pos c4] at H;have c4b0:((Int.tmod B C) == 0)=true:=beq_iff_eq.mpr c4;have c4b1:((Int.tmod B C) != 0)=false:=bne_eq_false_iff_eq.mpr c4;clear c4;obtain rfl:=Option.some.inj H;go_enter Try.func78,Try.ntmps78;go_wp2;go_ret;exact ⟨by first|rfl|(simp;done)|(simp [*];done),by repeat (first|exact Drawn0.refl _|apply Drawn0.step)⟩
  ·
   rw [if_neg c4] at H;have c4b0:((Int.tmod B C) == 0)=false:=beq_eq_false_iff_ne.mpr c4;have c4b1:((Int.tmod B C) != 0)=true:=bne_iff_ne.mpr c4
   by_cases c5:B < 0
   ·
    rw [if_pos c5] at H;have c5b0:decide (B < 0)=true:=decide_eq_true c5;clear c5;obtain rfl:=Option.some.inj H;go_enter Try.func78,Try.ntmps78;go_wp2;go_ret;exact ⟨by first|rfl|(simp;done)|(simp [*];done),by repeat (first|exact Drawn0.refl _|apply Drawn0.step)⟩
   ·
    rw [if_neg c5] at H;have c5b0:decide (B < 0)=false:=decide_eq_false c5;clear c5;obtain rfl:=Option.some.inj H;go_enter Try.func78,Try.ntmps78;go_wp2;go_ret;exact ⟨by first|rfl|(simp;done)|(simp [*];done),by repeat (first|exact Drawn0.refl _|apply Drawn0.step)⟩
/-! ### norm_nearest: function 72 -/
def norm_nearest.f (a0:Int) (a1:Int) (a2:Int):Option (Int):=(norm_floor.f a0 a1).bind fun t143=>(if (Go.bits .and .i64 t143 1)=a2 then (if (wrap64 (a0 - (wrap64 (t143 * a1)))) > (wrap64 ((wrap64 ((wrap64 (t143 + 2)) * a1)) - a0)) then (some (wrap64 (t143 + 2))) else (some t143)) else (if (wrap64 (a0 - (wrap64 ((wrap64 (t143 - 1)) * a1)))) > (wrap64 ((wrap64 ((wrap64 ((wrap64 (t143 - 1)) + 2)) * a1)) - a0)) then (some (wrap64 ((wrap64 (t143 - 1)) + 2))) else (some (wrap64 (t143 - 1)))))
set_option maxHeartbeats 8000000 in
set_option maxRecDepth 100000 in
theorem norm_nearest.calls (C:Int) (D:Int) (E:Int) (r:Int) (w:World) (h:norm_nearest.f C D E=some r) :
    Calls Try.prog 72 #[.int .i64 C,.int .i64 D,.int .i64 E] w fun e w'=>e=.returned (.int .i64 r)∧Drawn0 w w':=by
 have H:((norm_floor.f C D).bind fun B=>(if (Go.bits .and .i64 B 1)=E then (if (wrap64 (C - (wrap64 (B * D)))) > (wrap64 ((wrap64 ((wrap64 (B + 2)) * D)) - C)) then (some (wrap64 (B + 2))) else (some B)) else (if (wrap64 (C - (wrap64 ((wrap64 (B - 1)) * D)))) > (wrap64 ((wrap64 ((wrap64 ((wrap64 (B - 1)) + 2)) * D)) - C)) then (some (wrap64 ((wrap64 (B - 1)) + 2))) else (some (wrap64 (B - 1))))))=some r:=h;clear h;replace H:=Option.bind_eq_some_iff.mp H;obtain ⟨B,G,H⟩:=H;(try dsimp only at H);have F:=mk0 G;clear G
 by_cases c5:(Go.bits .and .i64 B 1)=E
 ·
  rw [if_pos c5] at H;have c5b0:((Go.bits .and .i64 B 1) == E)=true:=beq_iff_eq.mpr c5;have c5b1:((Go.bits .and .i64 B 1) != E)=false:=bne_eq_false_iff_eq.mpr c5;clear c5
  by_cases c6:(wrap64 (C - (wrap64 (B * D)))) > (wrap64 ((wrap64 ((wrap64 (B + 2)) * D)) - C))
  ·
   rw [if_pos c6] at H;have c6b0:decide ((wrap64 ((wrap64 ((wrap64 (B + 2)) * D)) - C)) < (wrap64 (C - (wrap64 (B * D)))))=true:=decide_eq_true c6;clear c6;obtain rfl:=Option.some.inj H;go_enter Try.func72,Try.ntmps72;go_wp2_with (first|((with_reducible refine gate_callee (f:=78) rfl ?_);refine goesL_ (some 10) rfl rfl Try.func78 (by kernel_rfl) rfl #[.int .i64 C,.int .i64 D] rfl (by (try simp only [m0_,m1_,m2_]);first|done|rfl|(simp only [l0_,l1_];rfl)) ?_;(with_reducible refine (norm_floor.calls C D B _ F.1).mono ?_);rintro e w' ⟨rfl,⟨nd,rfl⟩⟩;refine ⟨_,rfl,?_⟩));go_ret;exact ⟨by first|rfl|(simp;done)|(simp [*];done),by repeat (first|exact Drawn0.refl _|apply Drawn0.step)⟩
  ·
   rw [if_neg c6] at H;have c6b0:decide ((wrap64 ((wrap64 ((wrap64 (B + 2)) * D)) - C)) < (wrap64 (C - (wrap64 (B * D)))))=false:=decide_eq_false c6;clear c6;obtain rfl:=Option.some.inj H;go_enter Try.func72,Try.ntmps72;go_wp2_with (first|((with_reducible refine gate_callee (f:=78) rfl ?_);refine goesL_ (some 10) rfl rfl Try.func78 (by kernel_rfl) rfl #[.int .i64 C,.int .i64 D] rfl (by (try simp only [m0_,m1_,m2_]);first|done|rfl|(simp only [l0_,l1_];rfl)) ?_;(with_reducible refine (norm_floor.calls C D B _ F.1).mono ?_);rintro e w' ⟨rfl,⟨nd,rfl⟩⟩;refine ⟨_,rfl,?_⟩));go_ret;exact ⟨by first|rfl|(simp;done)|(simp [*];done),by repeat (first|exact Drawn0.refl _|apply Drawn0.step)⟩
 ·
  rw [if_neg c5] at H;have c5b0:((Go.bits .and .i64 B 1) == E)=false:=beq_eq_false_iff_ne.mpr c5;have c5b1:((Go.bits .and .i64 B 1) != E)=true:=bne_iff_ne.mpr c5
  by_cases c7:(wrap64 (C - (wrap64 ((wrap64 (B - 1)) * D)))) > (wrap64 ((wrap64 ((wrap64 ((wrap64 (B - 1)) + 2)) * D)) - C))
  ·
   rw [if_pos c7] at H;have c7b0:decide ((wrap64 ((wrap64 ((wrap64 ((wrap64 (B - 1)) + 2)) * D)) - C)) < (wrap64 (C - (wrap64 ((wrap64 (B - 1)) * D)))))=true:=decide_eq_true c7;clear c7;obtain rfl:=Option.some.inj H;go_enter Try.func72,Try.ntmps72;go_wp2_with (first|((with_reducible refine gate_callee (f:=78) rfl ?_);refine goesL_ (some 10) rfl rfl Try.func78 (by kernel_rfl) rfl #[.int .i64 C,.int .i64 D] rfl (by (try simp only [m0_,m1_,m2_]);first|done|rfl|(simp only [l0_,l1_];rfl)) ?_;(with_reducible refine (norm_floor.calls C D B _ F.1).mono ?_);rintro e w' ⟨rfl,⟨nd,rfl⟩⟩;refine ⟨_,rfl,?_⟩));go_ret;exact ⟨by first|rfl|(simp;done)|(simp [*];done),by repeat (first|exact Drawn0.refl _|apply Drawn0.step)⟩
  ·
   rw [if_neg c7] at H;have c7b0:decide ((wrap64 ((wrap64 ((wrap64 ((wrap64 (B - 1)) + 2)) * D)) - C)) < (wrap64 (C - (wrap64 ((wrap64 (B - 1)) * D)))))=false:=decide_eq_false c7;clear c7;obtain rfl:=Option.some.inj H;go_enter Try.func72,Try.ntmps72;go_wp2_with (first|((with_reducible refine gate_callee (f:=78) rfl ?_);refine goesL_ (some 10) rfl rfl Try.func78 (by kernel_rfl) rfl #[.int .i64 C,.int .i64 D] rfl (by (try simp only [m0_,m1_,m2_]);first|done|rfl|(simp only [l0_,l1_];rfl)) ?_;(with_reducible refine (norm_floor.calls C D B _ F.1).mono ?_);rintro e w' ⟨rfl,⟨nd,rfl⟩⟩;refine ⟨_,rfl,?_⟩));go_ret;exact ⟨by first|rfl|(simp;done)|(simp [*];done),by repeat (first|exact Drawn0.refl _|apply Drawn0.step)⟩
/-! ### norm_quat_minus: function 73 -/
def norm_quat_minus.l0:Nat → Int → Int → Int → Int → Int → Int → Int → Int → Int → Option (Int × Int × Int × Int)
  | 0,_,_,_,_,_,_,_,_,_=>none
  | k + 1,x6,x145000,x145001,x145002,x145003,x146000,x146001,x146002,x146003=>if x6 < 4 then (if x6=0 then (norm_quat_minus.l0 k 1 (wrap64 (x145000 - x146000)) x145001 x145002 x145003 x146000 x146001 x146002 x146003) else (if x6=1 then (norm_quat_minus.l0 k 2 x145000 (wrap64 (x145001 - x146001)) x145002 x145003 x146000 x146001 x146002 x146003) else (if x6=2 then (norm_quat_minus.l0 k 3 x145000 x145001 (wrap64 (x145002 - x146002)) x145003 x146000 x146001 x146002 x146003) else (if x6=3 then (norm_quat_minus.l0 k 4 x145000 x145001 x145002 (wrap64 (x145003 - x146003)) x146000 x146001 x146002 x146003) else (none))))) else (some (x145000,x145001,x145002,x145003))
def norm_quat_minus.f (k:Nat) (a0_0:Int) (a0_1:Int) (a0_2:Int) (a0_3:Int) (a1_0:Int) (a1_1:Int) (a1_2:Int) (a1_3:Int):Option (Int × Int × Int × Int):=norm_quat_minus.l0 k 0 a0_0 a0_1 a0_2 a0_3 a1_0 a1_1 a1_2 a1_3
theorem norm_quat_minus.mono_l:∀ k,(∀ y0 y1 y2 y3 y4 y5 y6 y7 y8,LeO (norm_quat_minus.l0 k y0 y1 y2 y3 y4 y5 y6 y7 y8) (norm_quat_minus.l0 (k + 1) y0 y1 y2 y3 y4 y5 y6 y7 y8))
  | 0=>fun _ _ _ _ _ _ _ _ _ r h=>by simp [norm_quat_minus.l0] at h
  | k + 1=>by
    have ih0:=norm_quat_minus.mono_l k
    · intro y0 y1 y2 y3 y4 y5 y6 y7 y8
      unfold norm_quat_minus.l0
      with_reducible repeat' first|exact ih0 _ _ _ _ _ _ _ _ _|exact LeO.refl _|exact LeO.none _|refine LeO.ite ?_ ?_|refine LeO.bind ?_ (fun _=>?_)
theorem norm_quat_minus.mono:∀ a0 a1 a2 a3 a4 a5 a6 a7 k,LeO (norm_quat_minus.f k a0 a1 a2 a3 a4 a5 a6 a7) (norm_quat_minus.f (k + 1) a0 a1 a2 a3 a4 a5 a6 a7):=by
  intro a0 a1 a2 a3 a4 a5 a6 a7 k
  have ih0:=norm_quat_minus.mono_l k
  unfold norm_quat_minus.f
  with_reducible repeat' first|exact ih0 _ _ _ _ _ _ _ _ _|exact LeO.refl _|exact LeO.none _|refine LeO.ite ?_ ?_|refine LeO.bind ?_ (fun _=>?_)
def norm_quat_minus.T4:Bool × List (List Nat × List Nat):=(true,[([],[]),([0],[0]),([1],[1]),([],[]),([3],[3]),([4],[4]),([2,5],[2,5]),([0,0,1,2,3,4,5,6],[0]),([7,6,0,1,2,3,4,5,6],[6,7])])
def norm_quat_minus.B4:List Nat:=[0,1,3,0,8,24,63,127,255]
theorem norm_quat_minus.tab4:rtab .any (opsOf Try.f73 4)=norm_quat_minus.T4:=by kernel_rfl
theorem norm_quat_minus.bits4:waitsOk norm_quat_minus.T4.2 norm_quat_minus.B4=true:=by kernel_rfl
set_option maxHeartbeats 8000000 in
set_option maxRecDepth 100000 in
theorem norm_quat_minus.calls (k:Nat) (a8:Int) (a9:Int) (b0:Int) (b1:Int) (U:Int) (V:Int) (X:Int) (Y:Int) (r1:Int) (r2:Int) (r3:Int) (r4:Int) (w:World) (h:norm_quat_minus.f k a8 a9 b0 b1 U V X Y=some (r1,r2,r3,r4)) :
    Calls Try.prog 73 #[.agg #[.int .i64 a8,.int .i64 a9,.int .i64 b0,.int .i64 b1],.agg #[.int .i64 U,.int .i64 V,.int .i64 X,.int .i64 Y]] w fun e w'=>e=.returned (.agg #[.int .i64 r1,.int .i64 r2,.int .i64 r3,.int .i64 r4])∧Below w.heap.size w w':=by
 have h5:=Try.underlying67;have T:=mk0 (Below.refl w.heap.size w);have H:(norm_quat_minus.l0 k 0 a8 a9 b0 b1 U V X Y)=some (r1,r2,r3,r4):=h;clear h;have H':=mk0 H;clear H;go_enter Try.func73,Try.ntmps73;go_wp2_with (first|((with_reducible refine gate_dst (N:=2) rfl ?_);refine box_event ?hg (N:=2) ?hd (cs:=#[.int .i64 a8,.int .i64 a9,.int .i64 b0,.int .i64 b1]) (t:=67) ?hr ?_;(case hd=>rfl);(case hg=>rfl);(case hr=>first|(go_simp;done)|(go_simp;rfl));intro L hg w3 a2 hb;have B:=mk0 (a2);have d1:=szw hg T;have a4:=d1;replace T:=bst T hb;clear hb a2 hg)|((with_reducible refine gate_dst (N:=3) rfl ?_);refine box_event ?hg (N:=3) ?hd (cs:=#[.int .i64 U,.int .i64 V,.int .i64 X,.int .i64 Y]) (t:=67) ?hr ?_;(case hd=>rfl);(case hg=>rfl);(case hr=>first|(go_simp;done)|(go_simp;rfl));intro M hg w4 a2 hb;have F:=mk0 (a2);have d2:=szw hg T;have a5:=d2;have Z:=nlt hg B;have O:=ngt hg B;replace B:=bkb B hb;replace T:=bst T hb;clear hb a2 hg)|((with_reducible refine gate_dst (N:=4) rfl ?_);refine box_event ?hg (N:=4) ?hd (cs:=#[.int .i64 0,.int .i64 0,.int .i64 0,.int .i64 0]) (t:=67) ?hr ?_;(case hd=>rfl);(case hg=>rfl);(case hr=>first|(go_simp;done)|(go_simp;rfl));intro d0 hg w5 a2 hb;have I:=mk0 (a2);have d3:=szw hg T;have a6:=d3;have a0:=nlt hg B;have Q:=ngt hg B;have b8:=nlt hg F;have b9:=ngt hg F;replace B:=bkb B hb;replace F:=bkb F hb;replace T:=bst T hb;clear hb a2 hg));(try simp only [Act.put,s0_,s1_,s2_])
 go_loopg [6] k (fun kq v6 w'=>∃ (a1:Int) (C:Int) (D:Int) (E:Int) (G:Int),v6=.int .i64 a1∧Aside0 (norm_quat_minus.l0 kq a1 C D E G U V X Y=some (r1,r2,r3,r4))∧Aside0 (kq ≤ k)∧Aside0 (Q4_ w' L C D E G 67)∧Aside0 (Q4_ w' M U V X Y 67)∧Aside0 (Q4_ w' d0 0 0 0 0 67)∧Aside0 (Below w.heap.size w w'))
 case atStart=>exact ⟨(0),(a8),(a9),(b0),(b1),(by first|rfl|(simp;done)|(simp [*];done)),H',⟨Nat.le_refl _⟩,⟨by exact B.1⟩,⟨by exact F.1⟩,⟨by exact I.1⟩,⟨by repeat (first|(with_reducible first|exact T.1|apply below_alloc|apply pw_below_drewN|apply below_drew1|refine below_set ?_ a4.1|refine below_set ?_ a5.1|refine below_set ?_ a6.1)|exact T.1)⟩⟩
 case round =>
  clear H';try clear p2
  obtain ⟨a1,C,D,E,G,rfl,HA,a7,B,F,I,T⟩:=hrel;cases gk with
  | zero=>exact absurd HA.1 (by simp [norm_quat_minus.l0])
  | succ k1 =>
   have H:=HA.1;clear HA;simp only [norm_quat_minus.l0] at H
   by_cases c6:a1 < 4
   ·
    rw [if_pos c6] at H;have c6b0:decide (a1 < 4)=true:=decide_eq_true c6;clear c6
    by_cases c7:a1=0
    ·
     subst c7;have H1:(norm_quat_minus.l0 k1 1 (wrap64 (C - U)) D E G U V X Y)=some (r1,r2,r3,r4):=by (try rw [if_pos rfl] at H);first|exact H|simpa using H
     clear H;have H:=H1;clear H1;have H':=mk0 H;clear H;try go_wp2
     replace B:=bdr B;replace F:=bdr F;replace I:=bdr I;replace T:=hdr T;refine start_ (n:=9) (S:=fun w'=>w'.cell? ⟨L,0,none⟩=some (.int .i64 C)∧w'.cell? ⟨L,1,none⟩=some (.int .i64 D)∧w'.cell? ⟨L,2,none⟩=some (.int .i64 E)∧w'.cell? ⟨L,3,none⟩=some (.int .i64 G)∧w'.cell? ⟨M,0,none⟩=some (.int .i64 U)∧w'.cell? ⟨M,1,none⟩=some (.int .i64 V)∧w'.cell? ⟨M,2,none⟩=some (.int .i64 X)∧w'.cell? ⟨M,3,none⟩=some (.int .i64 Y)) (ds:=[8]) #[n_,n_,n_,n_,n_,n_,n_,n_,n_] (by kernel_rfl) rfl rfl ⟨q0_ B,q1_ B,q2_ B,q3_ B,q0_ F,q1_ F,q2_ F,q3_ F⟩ (fun R=>?_);refine with_tabW norm_quat_minus.tab4 norm_quat_minus.bits4 (fun J a3=>?_);generalize wr.drew=w8 at B F I T R ⊢;refine pure_ (i:=0) (N:=some 9) (v:=?_) (a':=?_) #[y_,n_,n_,n_,n_,n_,n_,n_,n_] rfl rfl (any_of J.1 (by kernel_rfl)) (fun _ _ _ h=>h) (Or.inl ⟨by rfl,?_⟩) ?_ ?_;rotate_left
     ·
      intro w';go_simp;with_reducible rfl
     rotate_left
     ·
      simp only [Act.put,s0_,s1_,s2_,i64_w,i32_w];rfl
     refine pure_ (i:=1) (N:=some 10) (v:=?_) (a':=?_) #[y_,y_,n_,n_,n_,n_,n_,n_,n_] rfl rfl (any_of J.1 (by kernel_rfl)) (fun _ _ _ h=>h) (Or.inl ⟨by rfl,?_⟩) ?_ ?_;rotate_left
     ·
      intro w';go_simp;with_reducible rfl
     rotate_left
     ·
      simp only [Act.put,s0_,s1_,s2_,i64_w,i32_w];rfl
     refine pure_ (i:=3) (N:=some 12) (v:=?_) (a':=?_) #[y_,y_,n_,y_,n_,n_,n_,n_,n_] rfl rfl (any_of J.1 (by kernel_rfl)) (fun _ _ _ h=>h) (Or.inl ⟨by rfl,?_⟩) ?_ ?_;rotate_left
     ·
      intro w';go_simp;with_reducible rfl
     rotate_left
     ·
      simp only [Act.put,s0_,s1_,s2_,i64_w,i32_w];rfl
     refine pure_ (i:=4) (N:=some 13) (v:=?_) (a':=?_) #[y_,y_,n_,y_,y_,n_,n_,n_,n_] rfl rfl (any_of J.1 (by kernel_rfl)) (fun _ _ _ h=>h) (Or.inl ⟨by rfl,?_⟩) ?_ ?_;rotate_left
     ·
      intro w';go_simp;with_reducible rfl
     rotate_left
     ·
      simp only [Act.put,s0_,s1_,s2_,i64_w,i32_w];rfl
     refine take_ (i:=2) (N:=some 11) (v:=?_) (a':=?_) #[y_,y_,y_,y_,y_,n_,n_,n_,n_] rfl rfl (take_ofW J.1 a3.1 (by kernel_rfl)) (fun _ _ _ h=>h) (Or.inl ⟨by rfl,?_⟩) R ?_ ?_;rotate_left
     ·
      rintro w' ⟨s0,s1,s2,s3,s4,s5,s6,s7⟩;go_simp;with_reducible rfl
     rotate_left
     ·
      simp only [Act.put,s0_,s1_,s2_,i64_w,i32_w];rfl
     refine take_ (i:=5) (N:=some 14) (v:=?_) (a':=?_) #[y_,y_,y_,y_,y_,y_,n_,n_,n_] rfl rfl (take_ofW J.1 a3.1 (by kernel_rfl)) (fun _ _ _ h=>h) (Or.inl ⟨by rfl,?_⟩) R ?_ ?_;rotate_left
     ·
      rintro w' ⟨s0,s1,s2,s3,s4,s5,s6,s7⟩;go_simp;with_reducible rfl
     rotate_left
     ·
      simp only [Act.put,s0_,s1_,s2_,i64_w,i32_w];rfl
     refine pure_ (i:=6) (N:=some 15) (v:=?_) (a':=?_) #[y_,y_,y_,y_,y_,y_,y_,n_,n_] rfl rfl (any_of J.1 (by kernel_rfl)) (fun _ _ _ h=>h) (Or.inl ⟨by rfl,?_⟩) ?_ ?_;rotate_left
     ·
      intro w';go_simp;with_reducible rfl
     rotate_left
     ·
      simp only [Act.put,s0_,s1_,s2_,i64_w,i32_w];rfl
     refine pure_ (i:=7) (N:=some 16) (v:=?_) (a':=?_) #[y_,y_,y_,y_,y_,y_,y_,y_,n_] rfl rfl (any_of J.1 (by kernel_rfl)) (fun _ _ _ h=>h) (Or.inl ⟨by rfl,?_⟩) ?_ ?_;rotate_left
     ·
      intro w';go_simp;with_reducible rfl
     rotate_left
     ·
      simp only [Act.put,s0_,s1_,s2_,i64_w,i32_w];rfl
     refine last_ (i:=8) (N:=none) #[y_,y_,y_,y_,y_,y_,y_,y_,y_] rfl rfl (one_of J.1 (by kernel_rfl)) (by decide) (fun K hK=>?_);have i1:=q0_ B;have h7:=blk_frozen B.1 0;have g2:=O.1;have g3:=Q.1;have g4:=Z.1;have g5:=a0.1;refine skip_ (w1:=?_) (by rfl) rfl ?_ ?_;rotate_left
     ·
      go_simp;rfl
     refine hK.out _ _ ?_;clear hK K;refine done_ (done_of J.1 (by kernel_rfl)) ?_;try go_wp2
     go_roundg k1
     case measure=>have:=a7.1;omega
     case rel=>exact ⟨(1),(wrap64 (C - U)),(D),(E),(G),(by first|rfl|(simp;done)|(simp [*];done)),H',⟨by have:=a7.1;omega⟩,⟨by refine blk_put (cs:=#[.int .i64 C,.int .i64 D,.int .i64 E,.int .i64 G]) ?_ 0 _ rfl;exact B.1⟩,⟨by refine blk_far ?_ O.1 _;exact F.1⟩,⟨by refine blk_far ?_ Q.1 _;exact I.1⟩,⟨by repeat (first|(with_reducible first|exact T.1|apply below_alloc|apply pw_below_drewN|apply below_drew1|refine below_set ?_ a4.1|refine below_set ?_ a5.1|refine below_set ?_ a6.1)|exact T.1)⟩⟩
    ·
     rw [if_neg c7] at H
     by_cases c10:a1=1
     ·
      subst c10;have H1:(norm_quat_minus.l0 k1 2 C (wrap64 (D - V)) E G U V X Y)=some (r1,r2,r3,r4):=by (try rw [if_pos rfl] at H);first|exact H|simpa using H
      clear H;have H:=H1;clear H1;have H':=mk0 H;clear H;try go_wp2
      replace B:=bdr B;replace F:=bdr F;replace I:=bdr I;replace T:=hdr T;refine start_ (n:=9) (S:=fun w'=>w'.cell? ⟨L,0,none⟩=some (.int .i64 C)∧w'.cell? ⟨L,1,none⟩=some (.int .i64 D)∧w'.cell? ⟨L,2,none⟩=some (.int .i64 E)∧w'.cell? ⟨L,3,none⟩=some (.int .i64 G)∧w'.cell? ⟨M,0,none⟩=some (.int .i64 U)∧w'.cell? ⟨M,1,none⟩=some (.int .i64 V)∧w'.cell? ⟨M,2,none⟩=some (.int .i64 X)∧w'.cell? ⟨M,3,none⟩=some (.int .i64 Y)) (ds:=[8]) #[n_,n_,n_,n_,n_,n_,n_,n_,n_] (by kernel_rfl) rfl rfl ⟨q0_ B,q1_ B,q2_ B,q3_ B,q0_ F,q1_ F,q2_ F,q3_ F⟩ (fun R=>?_);refine with_tabW norm_quat_minus.tab4 norm_quat_minus.bits4 (fun J a3=>?_);generalize wr.drew=i2 at B F I T R ⊢;refine pure_ (i:=0) (N:=some 9) (v:=?_) (a':=?_) #[y_,n_,n_,n_,n_,n_,n_,n_,n_] rfl rfl (any_of J.1 (by kernel_rfl)) (fun _ _ _ h=>h) (Or.inl ⟨by rfl,?_⟩) ?_ ?_;rotate_left
      ·
       intro w';go_simp;with_reducible rfl
      rotate_left
      ·
       simp only [Act.put,s0_,s1_,s2_,i64_w,i32_w];rfl
      refine pure_ (i:=1) (N:=some 10) (v:=?_) (a':=?_) #[y_,y_,n_,n_,n_,n_,n_,n_,n_] rfl rfl (any_of J.1 (by kernel_rfl)) (fun _ _ _ h=>h) (Or.inl ⟨by rfl,?_⟩) ?_ ?_;rotate_left
      ·
       intro w';go_simp;with_reducible rfl
      rotate_left
      ·
       simp only [Act.put,s0_,s1_,s2_,i64_w,i32_w];rfl
      refine pure_ (i:=3) (N:=some 12) (v:=?_) (a':=?_) #[y_,y_,n_,y_,n_,n_,n_,n_,n_] rfl rfl (any_of J.1 (by kernel_rfl)) (fun _ _ _ h=>h) (Or.inl ⟨by rfl,?_⟩) ?_ ?_;rotate_left
      ·
       intro w';go_simp;with_reducible rfl
      rotate_left
      ·
       simp only [Act.put,s0_,s1_,s2_,i64_w,i32_w];rfl
      refine pure_ (i:=4) (N:=some 13) (v:=?_) (a':=?_) #[y_,y_,n_,y_,y_,n_,n_,n_,n_] rfl rfl (any_of J.1 (by kernel_rfl)) (fun _ _ _ h=>h) (Or.inl ⟨by rfl,?_⟩) ?_ ?_;rotate_left
      ·
       intro w';go_simp;with_reducible rfl
      rotate_left
      ·
       simp only [Act.put,s0_,s1_,s2_,i64_w,i32_w];rfl
      refine take_ (i:=2) (N:=some 11) (v:=?_) (a':=?_) #[y_,y_,y_,y_,y_,n_,n_,n_,n_] rfl rfl (take_ofW J.1 a3.1 (by kernel_rfl)) (fun _ _ _ h=>h) (Or.inl ⟨by rfl,?_⟩) R ?_ ?_;rotate_left
      ·
       rintro w' ⟨s0,s1,s2,s3,s4,s5,s6,s7⟩;go_simp;with_reducible rfl
      rotate_left
      ·
       simp only [Act.put,s0_,s1_,s2_,i64_w,i32_w];rfl
      refine take_ (i:=5) (N:=some 14) (v:=?_) (a':=?_) #[y_,y_,y_,y_,y_,y_,n_,n_,n_] rfl rfl (take_ofW J.1 a3.1 (by kernel_rfl)) (fun _ _ _ h=>h) (Or.inl ⟨by rfl,?_⟩) R ?_ ?_;rotate_left
      ·
       rintro w' ⟨s0,s1,s2,s3,s4,s5,s6,s7⟩;go_simp;with_reducible rfl
      rotate_left
      ·
       simp only [Act.put,s0_,s1_,s2_,i64_w,i32_w];rfl
      refine pure_ (i:=6) (N:=some 15) (v:=?_) (a':=?_) #[y_,y_,y_,y_,y_,y_,y_,n_,n_] rfl rfl (any_of J.1 (by kernel_rfl)) (fun _ _ _ h=>h) (Or.inl ⟨by rfl,?_⟩) ?_ ?_;rotate_left
      ·
       intro w';go_simp;with_reducible rfl
      rotate_left
      ·
       simp only [Act.put,s0_,s1_,s2_,i64_w,i32_w];rfl
      refine pure_ (i:=7) (N:=some 16) (v:=?_) (a':=?_) #[y_,y_,y_,y_,y_,y_,y_,y_,n_] rfl rfl (any_of J.1 (by kernel_rfl)) (fun _ _ _ h=>h) (Or.inl ⟨by rfl,?_⟩) ?_ ?_;rotate_left
      ·
       intro w';go_simp;with_reducible rfl
      rotate_left
      ·
       simp only [Act.put,s0_,s1_,s2_,i64_w,i32_w];rfl
      refine last_ (i:=8) (N:=none) #[y_,y_,y_,y_,y_,y_,y_,y_,y_] rfl rfl (one_of J.1 (by kernel_rfl)) (by decide) (fun K hK=>?_);have h8:=q1_ B;have g6:=blk_frozen B.1 1;have d4:=O.1;have d5:=Q.1;have d6:=Z.1;have d7:=a0.1;refine skip_ (w1:=?_) (by rfl) rfl ?_ ?_;rotate_left
      ·
       go_simp;rfl
      refine hK.out _ _ ?_;clear hK K;refine done_ (done_of J.1 (by kernel_rfl)) ?_;try go_wp2
      go_roundg k1
      case measure=>have:=a7.1;omega
      case rel=>exact ⟨(2),(C),(wrap64 (D - V)),(E),(G),(by first|rfl|(simp;done)|(simp [*];done)),H',⟨by have:=a7.1;omega⟩,⟨by refine blk_put (cs:=#[.int .i64 C,.int .i64 D,.int .i64 E,.int .i64 G]) ?_ 1 _ rfl;exact B.1⟩,⟨by refine blk_far ?_ O.1 _;exact F.1⟩,⟨by refine blk_far ?_ Q.1 _;exact I.1⟩,⟨by repeat (first|(with_reducible first|exact T.1|apply below_alloc|apply pw_below_drewN|apply below_drew1|refine below_set ?_ a4.1|refine below_set ?_ a5.1|refine below_set ?_ a6.1)|exact T.1)⟩⟩
     ·
      rw [if_neg c10] at H
      by_cases c13:a1=2
      ·
       subst c13;have H1:(norm_quat_minus.l0 k1 3 C D (wrap64 (E - X)) G U V X Y)=some (r1,r2,r3,r4):=by (try rw [if_pos rfl] at H);first|exact H|simpa using H
       clear H;have H:=H1;clear H1;have H':=mk0 H;clear H;try go_wp2
       replace B:=bdr B;replace F:=bdr F;replace I:=bdr I;replace T:=hdr T;refine start_ (n:=9) (S:=fun w'=>w'.cell? ⟨L,0,none⟩=some (.int .i64 C)∧w'.cell? ⟨L,1,none⟩=some (.int .i64 D)∧w'.cell? ⟨L,2,none⟩=some (.int .i64 E)∧w'.cell? ⟨L,3,none⟩=some (.int .i64 G)∧w'.cell? ⟨M,0,none⟩=some (.int .i64 U)∧w'.cell? ⟨M,1,none⟩=some (.int .i64 V)∧w'.cell? ⟨M,2,none⟩=some (.int .i64 X)∧w'.cell? ⟨M,3,none⟩=some (.int .i64 Y)) (ds:=[8]) #[n_,n_,n_,n_,n_,n_,n_,n_,n_] (by kernel_rfl) rfl rfl ⟨q0_ B,q1_ B,q2_ B,q3_ B,q0_ F,q1_ F,q2_ F,q3_ F⟩ (fun R=>?_);refine with_tabW norm_quat_minus.tab4 norm_quat_minus.bits4 (fun J a3=>?_);generalize wr.drew=i3 at B F I T R ⊢;refine pure_ (i:=0) (N:=some 9) (v:=?_) (a':=?_) #[y_,n_,n_,n_,n_,n_,n_,n_,n_] rfl rfl (any_of J.1 (by kernel_rfl)) (fun _ _ _ h=>h) (Or.inl ⟨by rfl,?_⟩) ?_ ?_;rotate_left
       ·
        intro w';go_simp;with_reducible rfl
       rotate_left
       ·
        simp only [Act.put,s0_,s1_,s2_,i64_w,i32_w];rfl
       refine pure_ (i:=1) (N:=some 10) (v:=?_) (a':=?_) #[y_,y_,n_,n_,n_,n_,n_,n_,n_] rfl rfl (any_of J.1 (by kernel_rfl)) (fun _ _ _ h=>h) (Or.inl ⟨by rfl,?_⟩) ?_ ?_;rotate_left
       ·
        intro w';go_simp;with_reducible rfl
       rotate_left
       ·
        simp only [Act.put,s0_,s1_,s2_,i64_w,i32_w];rfl
       refine pure_ (i:=3) (N:=some 12) (v:=?_) (a':=?_) #[y_,y_,n_,y_,n_,n_,n_,n_,n_] rfl rfl (any_of J.1 (by kernel_rfl)) (fun _ _ _ h=>h) (Or.inl ⟨by rfl,?_⟩) ?_ ?_;rotate_left
       ·
        intro w';go_simp;with_reducible rfl
       rotate_left
       ·
        simp only [Act.put,s0_,s1_,s2_,i64_w,i32_w];rfl
       refine pure_ (i:=4) (N:=some 13) (v:=?_) (a':=?_) #[y_,y_,n_,y_,y_,n_,n_,n_,n_] rfl rfl (any_of J.1 (by kernel_rfl)) (fun _ _ _ h=>h) (Or.inl ⟨by rfl,?_⟩) ?_ ?_;rotate_left
       ·
        intro w';go_simp;with_reducible rfl
       rotate_left
       ·
        simp only [Act.put,s0_,s1_,s2_,i64_w,i32_w];rfl
       refine take_ (i:=2) (N:=some 11) (v:=?_) (a':=?_) #[y_,y_,y_,y_,y_,n_,n_,n_,n_] rfl rfl (take_ofW J.1 a3.1 (by kernel_rfl)) (fun _ _ _ h=>h) (Or.inl ⟨by rfl,?_⟩) R ?_ ?_;rotate_left
       ·
        rintro w' ⟨s0,s1,s2,s3,s4,s5,s6,s7⟩;go_simp;with_reducible rfl
       rotate_left
       ·
        simp only [Act.put,s0_,s1_,s2_,i64_w,i32_w];rfl
       refine take_ (i:=5) (N:=some 14) (v:=?_) (a':=?_) #[y_,y_,y_,y_,y_,y_,n_,n_,n_] rfl rfl (take_ofW J.1 a3.1 (by kernel_rfl)) (fun _ _ _ h=>h) (Or.inl ⟨by rfl,?_⟩) R ?_ ?_;rotate_left
       ·
        rintro w' ⟨s0,s1,s2,s3,s4,s5,s6,s7⟩;go_simp;with_reducible rfl
       rotate_left
       ·
        simp only [Act.put,s0_,s1_,s2_,i64_w,i32_w];rfl
       refine pure_ (i:=6) (N:=some 15) (v:=?_) (a':=?_) #[y_,y_,y_,y_,y_,y_,y_,n_,n_] rfl rfl (any_of J.1 (by kernel_rfl)) (fun _ _ _ h=>h) (Or.inl ⟨by rfl,?_⟩) ?_ ?_;rotate_left
       ·
        intro w';go_simp;with_reducible rfl
       rotate_left
       ·
        simp only [Act.put,s0_,s1_,s2_,i64_w,i32_w];rfl
       refine pure_ (i:=7) (N:=some 16) (v:=?_) (a':=?_) #[y_,y_,y_,y_,y_,y_,y_,y_,n_] rfl rfl (any_of J.1 (by kernel_rfl)) (fun _ _ _ h=>h) (Or.inl ⟨by rfl,?_⟩) ?_ ?_;rotate_left
       ·
        intro w';go_simp;with_reducible rfl
       rotate_left
       ·
        simp only [Act.put,s0_,s1_,s2_,i64_w,i32_w];rfl
       refine last_ (i:=8) (N:=none) #[y_,y_,y_,y_,y_,y_,y_,y_,y_] rfl rfl (one_of J.1 (by kernel_rfl)) (by decide) (fun K hK=>?_);have h9:=q2_ B;have g7:=blk_frozen B.1 2;have d8:=O.1;have d9:=Q.1;have e0:=Z.1;have e1:=a0.1;refine skip_ (w1:=?_) (by rfl) rfl ?_ ?_;rotate_left
       ·
        go_simp;rfl
       refine hK.out _ _ ?_;clear hK K;refine done_ (done_of J.1 (by kernel_rfl)) ?_;try go_wp2
       go_roundg k1
       case measure=>have:=a7.1;omega
       case rel=>exact ⟨(3),(C),(D),(wrap64 (E - X)),(G),(by first|rfl|(simp;done)|(simp [*];done)),H',⟨by have:=a7.1;omega⟩,⟨by refine blk_put (cs:=#[.int .i64 C,.int .i64 D,.int .i64 E,.int .i64 G]) ?_ 2 _ rfl;exact B.1⟩,⟨by refine blk_far ?_ O.1 _;exact F.1⟩,⟨by refine blk_far ?_ Q.1 _;exact I.1⟩,⟨by repeat (first|(with_reducible first|exact T.1|apply below_alloc|apply pw_below_drewN|apply below_drew1|refine below_set ?_ a4.1|refine below_set ?_ a5.1|refine below_set ?_ a6.1)|exact T.1)⟩⟩
      ·
       rw [if_neg c13] at H
       by_cases c16:a1=3
       ·
        subst c16;have H1:(norm_quat_minus.l0 k1 4 C D E (wrap64 (G - Y)) U V X Y)=some (r1,r2,r3,r4):=by (try rw [if_pos rfl] at H);first|exact H|simpa using H
        clear H;have H:=H1;clear H1;have H':=mk0 H;clear H;try go_wp2
        replace B:=bdr B;replace F:=bdr F;replace I:=bdr I;replace T:=hdr T;refine start_ (n:=9) (S:=fun w'=>w'.cell? ⟨L,0,none⟩=some (.int .i64 C)∧w'.cell? ⟨L,1,none⟩=some (.int .i64 D)∧w'.cell? ⟨L,2,none⟩=some (.int .i64 E)∧w'.cell? ⟨L,3,none⟩=some (.int .i64 G)∧w'.cell? ⟨M,0,none⟩=some (.int .i64 U)∧w'.cell? ⟨M,1,none⟩=some (.int .i64 V)∧w'.cell? ⟨M,2,none⟩=some (.int .i64 X)∧w'.cell? ⟨M,3,none⟩=some (.int .i64 Y)) (ds:=[8]) #[n_,n_,n_,n_,n_,n_,n_,n_,n_] (by kernel_rfl) rfl rfl ⟨q0_ B,q1_ B,q2_ B,q3_ B,q0_ F,q1_ F,q2_ F,q3_ F⟩ (fun R=>?_);refine with_tabW norm_quat_minus.tab4 norm_quat_minus.bits4 (fun J a3=>?_);generalize wr.drew=i4 at B F I T R ⊢;refine pure_ (i:=0) (N:=some 9) (v:=?_) (a':=?_) #[y_,n_,n_,n_,n_,n_,n_,n_,n_] rfl rfl (any_of J.1 (by kernel_rfl)) (fun _ _ _ h=>h) (Or.inl ⟨by rfl,?_⟩) ?_ ?_;rotate_left
        ·
         intro w';go_simp;with_reducible rfl
        rotate_left
        ·
         simp only [Act.put,s0_,s1_,s2_,i64_w,i32_w];rfl
        refine pure_ (i:=1) (N:=some 10) (v:=?_) (a':=?_) #[y_,y_,n_,n_,n_,n_,n_,n_,n_] rfl rfl (any_of J.1 (by kernel_rfl)) (fun _ _ _ h=>h) (Or.inl ⟨by rfl,?_⟩) ?_ ?_;rotate_left
        ·
         intro w';go_simp;with_reducible rfl
        rotate_left
        ·
         simp only [Act.put,s0_,s1_,s2_,i64_w,i32_w];rfl
        refine pure_ (i:=3) (N:=some 12) (v:=?_) (a':=?_) #[y_,y_,n_,y_,n_,n_,n_,n_,n_] rfl rfl (any_of J.1 (by kernel_rfl)) (fun _ _ _ h=>h) (Or.inl ⟨by rfl,?_⟩) ?_ ?_;rotate_left
        ·
         intro w';go_simp;with_reducible rfl
        rotate_left
        ·
         simp only [Act.put,s0_,s1_,s2_,i64_w,i32_w];rfl
        refine pure_ (i:=4) (N:=some 13) (v:=?_) (a':=?_) #[y_,y_,n_,y_,y_,n_,n_,n_,n_] rfl rfl (any_of J.1 (by kernel_rfl)) (fun _ _ _ h=>h) (Or.inl ⟨by rfl,?_⟩) ?_ ?_;rotate_left
        ·
         intro w';go_simp;with_reducible rfl
        rotate_left
        ·
         simp only [Act.put,s0_,s1_,s2_,i64_w,i32_w];rfl
        refine take_ (i:=2) (N:=some 11) (v:=?_) (a':=?_) #[y_,y_,y_,y_,y_,n_,n_,n_,n_] rfl rfl (take_ofW J.1 a3.1 (by kernel_rfl)) (fun _ _ _ h=>h) (Or.inl ⟨by rfl,?_⟩) R ?_ ?_;rotate_left
        ·
         rintro w' ⟨s0,s1,s2,s3,s4,s5,s6,s7⟩;go_simp;with_reducible rfl
        rotate_left
        ·
         simp only [Act.put,s0_,s1_,s2_,i64_w,i32_w];rfl
        refine take_ (i:=5) (N:=some 14) (v:=?_) (a':=?_) #[y_,y_,y_,y_,y_,y_,n_,n_,n_] rfl rfl (take_ofW J.1 a3.1 (by kernel_rfl)) (fun _ _ _ h=>h) (Or.inl ⟨by rfl,?_⟩) R ?_ ?_;rotate_left
        ·
         rintro w' ⟨s0,s1,s2,s3,s4,s5,s6,s7⟩;go_simp;with_reducible rfl
        rotate_left
        ·
         simp only [Act.put,s0_,s1_,s2_,i64_w,i32_w];rfl
        refine pure_ (i:=6) (N:=some 15) (v:=?_) (a':=?_) #[y_,y_,y_,y_,y_,y_,y_,n_,n_] rfl rfl (any_of J.1 (by kernel_rfl)) (fun _ _ _ h=>h) (Or.inl ⟨by rfl,?_⟩) ?_ ?_;rotate_left
        ·
         intro w';go_simp;with_reducible rfl
        rotate_left
        ·
         simp only [Act.put,s0_,s1_,s2_,i64_w,i32_w];rfl
        refine pure_ (i:=7) (N:=some 16) (v:=?_) (a':=?_) #[y_,y_,y_,y_,y_,y_,y_,y_,n_] rfl rfl (any_of J.1 (by kernel_rfl)) (fun _ _ _ h=>h) (Or.inl ⟨by rfl,?_⟩) ?_ ?_;rotate_left
        ·
         intro w';go_simp;with_reducible rfl
        rotate_left
        ·
         simp only [Act.put,s0_,s1_,s2_,i64_w,i32_w];rfl
        refine last_ (i:=8) (N:=none) #[y_,y_,y_,y_,y_,y_,y_,y_,y_] rfl rfl (one_of J.1 (by kernel_rfl)) (by decide) (fun K hK=>?_);have i0:=q3_ B;have g8:=blk_frozen B.1 3;have e2:=O.1;have e3:=Q.1;have e4:=Z.1;have e5:=a0.1;refine skip_ (w1:=?_) (by rfl) rfl ?_ ?_;rotate_left
        ·
         go_simp;rfl
        refine hK.out _ _ ?_;clear hK K;refine done_ (done_of J.1 (by kernel_rfl)) ?_;try go_wp2
        go_roundg k1
        case measure=>have:=a7.1;omega
        case rel=>exact ⟨(4),(C),(D),(E),(wrap64 (G - Y)),(by first|rfl|(simp;done)|(simp [*];done)),H',⟨by have:=a7.1;omega⟩,⟨by refine blk_put (cs:=#[.int .i64 C,.int .i64 D,.int .i64 E,.int .i64 G]) ?_ 3 _ rfl;exact B.1⟩,⟨by refine blk_far ?_ O.1 _;exact F.1⟩,⟨by refine blk_far ?_ Q.1 _;exact I.1⟩,⟨by repeat (first|(with_reducible first|exact T.1|apply below_alloc|apply pw_below_drewN|apply below_drew1|refine below_set ?_ a4.1|refine below_set ?_ a5.1|refine below_set ?_ a6.1)|exact T.1)⟩⟩
       ·
        rw [if_neg c16] at H;exact absurd H (by simp)
   ·
    rw [if_neg c6] at H;have c6b0:decide (a1 < 4)=false:=decide_eq_false c6;clear c6;simp only [Option.some.injEq,Prod.mk.injEq] at H;obtain ⟨rfl,rfl,rfl,rfl⟩:=H;have g9:=Z.1;have h0:=O.1;have h1:=a0.1;have h2:=Q.1;have e6:=q0_ B;have e7:=q1_ B;have e8:=q2_ B;have e9:=q3_ B;have f0:=blk_frozen B.1 0;have f1:=blk_frozen B.1 1;have f2:=blk_frozen B.1 2;have f3:=blk_frozen B.1 3;have h3:=b9.1;have h4:=b8.1;have f4:=q0_ I;have f5:=q1_ I;have f6:=q2_ I;have f7:=q3_ I;have f8:=blk_frozen I.1 0;have f9:=blk_frozen I.1 1;have g0:=blk_frozen I.1 2;have g1:=blk_frozen I.1 3;go_wp2;refine bodyPost_ret (results_cell_row rfl _ _ d0 67 #[.int .i64 C,.int .i64 D,.int .i64 E,.int .i64 G] (0,0) _ rfl (by refine blk_put (cs:=#[.int .i64 C,.int .i64 D,.int .i64 E,.int .i64 0]) ?_ 3 _ rfl;refine blk_put (cs:=#[.int .i64 C,.int .i64 D,.int .i64 0,.int .i64 0]) ?_ 2 _ rfl;refine blk_put (cs:=#[.int .i64 C,.int .i64 0,.int .i64 0,.int .i64 0]) ?_ 1 _ rfl;refine blk_put (cs:=#[.int .i64 0,.int .i64 0,.int .i64 0,.int .i64 0]) ?_ 0 _ rfl;exact I.1) Try.underlying67 rfl (by kernel_rfl)) rfl ?_;exact ⟨by first|rfl|(simp [errW_none,errW_some] <;> rfl)|(simp [*,errW_none,errW_some] <;> rfl),by repeat (first|(with_reducible first|exact T.1|apply below_alloc|apply pw_below_drewN|apply below_drew1|refine below_set ?_ a4.1|refine below_set ?_ a5.1|refine below_set ?_ a6.1)|exact T.1)⟩
end Go.Proofs.Ytgfnmimfoicmmaa.PM
