-- Written by pr2.py, a program of this session's, for this claim (through the kit's print).
import Derived.Test.YtploaicljkennaaPWx0
import Derived.Test.YtploaicljkennaaPWx28
namespace Go.Proofs.Ytploaicljkennaa.PW
open Go.Proofs.MyWords Go.RowKit Go.Proofs.YtploaicljkennaaW.PrintWords Go.Proofs.YtploaicljkennaaW.PrintLast Go.Proofs.YtploaicljkennaaW.PrintMore
attribute [local go_sem] max2_int min2_int max_two min_two max_three min_three max_four min_four   -- for this text's walks alone
set_option linter.unusedVariables false
set_option linter.unusedSimpArgs false

/-! ### bellpullref02_Derivative: function 35 -/
mutual
def bellpullref02_Derivative.l0:Nat → List Int → Int → Option (List Int × Bool)
  | 0,_,_=>none
  | k + 1,x4,x5=>if x5 < (x4.length:Int) then (if 0 ≤ x5 then (if (rd x4 x5) > 2 then (some (([]:List Int),false)) else (bellpullref02_Derivative.l0 k x4 (wrap64 (x5 + 1)))) else (none)) else (if (x4.length:Int) > 0 then (if 0 < (x4.length:Int) then (bellpullref02_Derivative.j1 k x4 ((rd x4 0) == 1)) else (none)) else (bellpullref02_Derivative.j1 k x4 false))
def bellpullref02_Derivative.j1:Nat → List Int → Bool → Option (List Int × Bool)
  | 0,_,_=>none
  | k + 1,x4,x28=>if x28=true then (if 1 ≤ (x4.length:Int) then ((some (x4.drop (1:Int).toNat:List Int)).bind fun y245=>(if (y245.length:Int) > 0 then (if 0 ≤ (wrap64 ((y245.length:Int) - 1)) then (if (wrap64 ((y245.length:Int) - 1)) < (y245.length:Int) then (if (rd y245 (wrap64 ((y245.length:Int) - 1)))=1 then (if (wrap64 ((y245.length:Int) - 1)) ≤ (y245.length:Int) then ((some (y245.take ((wrap64 ((y245.length:Int) - 1)):Int).toNat:List Int)).bind fun y249=>((some (([]:List Int):List Int)).bind fun y252=>(if y252.length + y249.length < 17592186044416 then (some ((y252 ++ y249),true)) else (none)))) else (none)) else ((some (([]:List Int):List Int)).bind fun y258=>(if y258.length + y245.length < 17592186044416 then (some ((y258 ++ y245),true)) else (none)))) else (none)) else (none)) else ((some (([]:List Int):List Int)).bind fun y264=>(if y264.length + y245.length < 17592186044416 then (some ((y264 ++ y245),true)) else (none))))) else (none)) else (if (x4.length:Int) > 0 then (if 0 ≤ (wrap64 ((x4.length:Int) - 1)) then (if (wrap64 ((x4.length:Int) - 1)) < (x4.length:Int) then (if (rd x4 (wrap64 ((x4.length:Int) - 1)))=1 then (if (wrap64 ((x4.length:Int) - 1)) ≤ (x4.length:Int) then ((some (x4.take ((wrap64 ((x4.length:Int) - 1)):Int).toNat:List Int)).bind fun y271=>((some (([]:List Int):List Int)).bind fun y274=>(if y274.length + y271.length < 17592186044416 then (some ((y274 ++ y271),true)) else (none)))) else (none)) else ((some (([]:List Int):List Int)).bind fun y280=>(if y280.length + x4.length < 17592186044416 then (some ((y280 ++ x4),true)) else (none)))) else (none)) else (none)) else ((some (([]:List Int):List Int)).bind fun y286=>(if y286.length + x4.length < 17592186044416 then (some ((y286 ++ x4),true)) else (none))))
end
def bellpullref02_Derivative.f (k:Nat) (l0:List Int):Option (List Int × Bool):=(bellpullref02_Runs.f k l0).bind fun t240=>(bellpullref02_Derivative.l0 k t240 0)
theorem bellpullref02_Derivative.mono_l:∀ k,(∀ y0 y1,LeO (bellpullref02_Derivative.l0 k y0 y1) (bellpullref02_Derivative.l0 (k + 1) y0 y1))∧(∀ y0 y1,LeO (bellpullref02_Derivative.j1 k y0 y1) (bellpullref02_Derivative.j1 (k + 1) y0 y1))
  | 0=>⟨fun _ _ r h=>by simp [bellpullref02_Derivative.l0] at h,fun _ _ r h=>by simp [bellpullref02_Derivative.j1] at h⟩
  | k + 1=>by
    obtain ⟨ih0,ih1⟩:=bellpullref02_Derivative.mono_l k
    refine ⟨?_,?_⟩
    · intro y0 y1
      unfold bellpullref02_Derivative.l0
      with_reducible repeat' first|exact ih0 _ _|exact ih1 _ _|exact bellpullref02_Runs.mono _ _|exact LeO.refl _|exact LeO.none _|refine LeO.ite ?_ ?_|refine LeO.bind ?_ (fun _=>?_)
    · intro y0 y1
      unfold bellpullref02_Derivative.j1
      with_reducible repeat' first|exact ih0 _ _|exact ih1 _ _|exact bellpullref02_Runs.mono _ _|exact LeO.refl _|exact LeO.none _|refine LeO.ite ?_ ?_|refine LeO.bind ?_ (fun _=>?_)
theorem bellpullref02_Derivative.mono:∀ a0 k,LeO (bellpullref02_Derivative.f k a0) (bellpullref02_Derivative.f (k + 1) a0):=by
  intro a0 k
  obtain ⟨ih0,ih1⟩:=bellpullref02_Derivative.mono_l k
  unfold bellpullref02_Derivative.f
  with_reducible repeat' first|exact ih0 _ _|exact ih1 _ _|exact bellpullref02_Runs.mono _ _|exact LeO.refl _|exact LeO.none _|refine LeO.ite ?_ ?_|refine LeO.bind ?_ (fun _=>?_)
set_option maxHeartbeats 8000000 in
set_option maxRecDepth 100000 in
theorem bellpullref02_Derivative.calls (k:Nat) (A0:Option Addr) (c0:Nat) (l0:List Int) (r1:List Int) (r2:Bool) (w:World) (hr0:Kd.C (Kd.int .i64) w A0 l0.length l0) (hc0:l0.length ≤ c0) (h:bellpullref02_Derivative.f k l0=some (r1,r2)) :
    Calls Try.prog 35 #[.slice A0 l0.length c0] w fun e w'=>∃ v0_:Value,e=.returned (.tuple #[v0_,.bool r2])∧Kd.R (Kd.int .i64) 3 w' w.heap.size (fun _=>True) v0_ r1∧Below w.heap.size w w':=by
 have HR0:=mk0 hr0;have HC0:=mk0 hc0;clear hr0 hc0;have HB:=mk0 (Below.refl w.heap.size w);have H:((bellpullref02_Runs.f k l0).bind fun t240=>(bellpullref02_Derivative.l0 k t240 0))=some (r1,r2):=h;clear h;replace H:=Option.bind_eq_some_iff.mp H;obtain ⟨t240,A20,H⟩:=H;(try dsimp only at H);have A2:=mk0 A20;clear A20;have H':=mk0 H;clear H;go_enter Try.func35,Try.ntmps35;go_wp2_with (first|((with_reducible refine gate_callee (f:=25) rfl ?_);refine goesL_ (some 8) rfl rfl Try.func25 (by kernel_rfl) rfl #[.slice A0 l0.length c0] rfl (by (try simp only [List.map_toArray,List.map_cons,List.map_nil]);first|done|rfl|(simp only [List.length_drop,List.length_take];rfl)) ?_;(with_reducible refine (bellpullref02_Runs.calls k _ _ l0 t240 _ ?side1 ?side2 A2.out).mono ?_);(case side1=>repeat (first|exact HR0.out|(with_reducible refine Kd.C_alloc ?_ _)|(with_reducible refine Kd.C_drewN ?_ _)|(with_reducible refine Kd.C_drew ?_)));(case side2=>exact HC0.out);rintro e w3 ⟨v241,rfl,ho0,hb⟩;refine ⟨_,rfl,?_⟩;have HO242:=mk0 (Kd.R_lower ho0 (below_size HB.out));replace HB:=bst HB hb;(try clear hb);(try clear ho0)))
 go_loopg [5] k (fun kq v5 w'=>∃ (x5_1:Int),v5=.int .i64 x5_1∧Aside0 (bellpullref02_Derivative.l0 kq t240 x5_1=some (r1,r2))∧Aside0 (kq ≤ k)∧Aside0 (Kd.Q (Kd.int .i64) 3 w' w.heap.size (fun _=>True) v241 t240)∧Aside0 (Below w.heap.size w w'))
 case atStart=>exact ⟨(0),(by first|rfl|(simp;done)|(simp [*];done)),H',⟨Nat.le_refl _⟩,⟨Kd.Q_of_R HO242.out⟩,⟨by repeat (first|(with_reducible first|exact HB.out|apply below_alloc|apply pw_below_drewN|apply below_drew1)|exact HB.out)⟩⟩
 case round =>
  clear H';try clear c2
  try clear p2
  try clear c3
  obtain ⟨x5_1,rfl,HA,HK1,HO_4,HB⟩:=hrel;cases gk with
  | zero=>exact absurd HA.out (by simp [bellpullref02_Derivative.l0])
  | succ k1 =>
   have H:=HA.out;clear HA;simp only [bellpullref02_Derivative.l0] at H
   by_cases c4:x5_1 < (t240.length:Int)
   ·
    rw [if_pos c4] at H;have c4b0:decide (x5_1 < (t240.length:Int))=true:=decide_eq_true c4;clear c4
    by_cases c5:0 ≤ x5_1
    ·
     rw [if_pos c5] at H;have c5b0:decide (0 ≤ x5_1)=true:=decide_eq_true c5;clear c5
     by_cases c6:(rd t240 x5_1) > 2
     ·
      rw [if_pos c6] at H;have c6b0:decide (2 < (rd t240 x5_1))=true:=decide_eq_true c6;clear c6;simp only [Option.some.injEq,Prod.mk.injEq] at H;obtain ⟨rfl,rfl⟩:=H;obtain ⟨Ao7,co7,eo7,_⟩:=Kd.Q_slice HO_4.out;subst eo7;have p243:0 ≤ (x5_1:Int):=of_decide_eq_true (by first|(with_reducible assumption)|assumption);have q243:x5_1 < (t240.length:Int):=of_decide_eq_true (by first|(with_reducible assumption)|assumption);obtain ⟨ad243,e243,hx243_0⟩:=Kd.at_int (Kd.Q_reads' HO_4.out).2.2 x5_1 p243 q243;cases e243;replace p243:=eq_true p243;replace q243:=eq_true q243;go_wp2;go_ret2;exact ⟨_,by first|rfl|(simp [errW_none,errW_some] <;> rfl)|(simp [*,errW_none,errW_some] <;> rfl),by first|exact Kd.R_nil _ _ _ _ _|exact Kd.N_nil _ _ _ _ _|exact Kd.V_nil _ _ _ _ _|exact Kd.Q_nil _ _ _ _ _|exact Kd.S_nil _ _ _ _ _,by repeat (first|(with_reducible first|exact HB.out|apply below_alloc|apply pw_below_drewN|apply below_drew1)|exact HB.out)⟩
     ·
      rw [if_neg c6] at H;have c6b0:decide (2 < (rd t240 x5_1))=false:=decide_eq_false c6;clear c6;have H':=mk0 H;clear H;obtain ⟨Ao8,co8,eo8,_⟩:=Kd.Q_slice HO_4.out;subst eo8;have p243:0 ≤ (x5_1:Int):=of_decide_eq_true (by first|(with_reducible assumption)|assumption);have q243:x5_1 < (t240.length:Int):=of_decide_eq_true (by first|(with_reducible assumption)|assumption);obtain ⟨ad243,e243,hx243_0⟩:=Kd.at_int (Kd.Q_reads' HO_4.out).2.2 x5_1 p243 q243;cases e243;replace p243:=eq_true p243;replace q243:=eq_true q243;go_wp2;go_roundg k1
      case measure=>have:=HK1.out;omega
      case rel=>exact ⟨(wrap64 (x5_1 + 1)),(by first|rfl|(simp;done)|(simp [*];done)),H',⟨by have:=HK1.out;omega⟩,⟨by (with_reducible repeat (first|apply Kd.Q_alloc|apply Kd.Q_drewN|apply Kd.Q_drew));exact HO_4.out⟩,⟨by repeat (first|(with_reducible first|exact HB.out|apply below_alloc|apply pw_below_drewN|apply below_drew1)|exact HB.out)⟩⟩
    ·
     rw [if_neg c5] at H;exact absurd H (by simp)
   ·
    rw [if_neg c4] at H;have c4b0:decide (x5_1 < (t240.length:Int))=false:=decide_eq_false c4;clear c4;have HC9:=mk0 H;clear H;obtain ⟨Ao10,co10,eo10,_⟩:=Kd.Q_slice HO_4.out;subst eo10;go_upto_region 7 with (fail)
    go_cut [28] (fun v28 wc=>∃ (kq:Nat) (x28_8:Bool),v28=.bool x28_8∧Aside0 (bellpullref02_Derivative.j1 kq t240 x28_8=some (r1,r2))∧Aside0 (kq ≤ k1)∧Aside0 (Kd.Q (Kd.int .i64) 3 wc w.heap.size (fun _=>True) (.slice Ao10 t240.length co10) t240)∧Aside0 (Below w.heap.size w wc))
    case first =>
     have H:=HC9.out;clear HC9
     by_cases c11:(t240.length:Int) > 0
     ·
      rw [if_pos c11] at H;have c11b0:decide (0 < (t240.length:Int))=true:=decide_eq_true c11;have c11b1:decide (0 < t240.length)=true:=decide_eq_true (by omega);clear c11;(first|rw [c11b0]|(simp only [i64_w,i32_w];rw [c11b0])|skip)
      by_cases c12:0 < (t240.length:Int)
      ·
       rw [if_pos c12] at H;have c12b0:decide (0 < (t240.length:Int))=true:=decide_eq_true c12;have c12b1:decide (0 < t240.length)=true:=decide_eq_true (by omega);clear c12;have H':=mk0 H;clear H;have p244:0 ≤ (0:Int):=(by omega)
       have q244:0 < (t240.length:Int):=of_decide_eq_true (by first|(with_reducible assumption)|assumption);obtain ⟨ad244,e244,hx244_0⟩:=Kd.at_int (Kd.Q_reads' HO_4.out).2.2 0 p244 q244;cases e244;have qi244:(0 < t240.length)=True:=eq_true (by omega);(try rw [show ((0:Int)).toNat=0 from rfl] at hx244_0);(try rw [Addr.add_zero'] at hx244_0);replace p244:=eq_true p244;replace q244:=eq_true q244;go_wp2;go_meet
       case rel=>exact ⟨_,(((rd t240 0) == 1)),(by first|rfl|(simp;done)|(simp [*];done)),H',⟨by have:=HK1.out;first|omega|exact Nat.le_refl _⟩,⟨by (with_reducible repeat (first|apply Kd.Q_alloc|apply Kd.Q_drewN|apply Kd.Q_drew));exact HO_4.out⟩,⟨by repeat (first|(with_reducible first|exact HB.out|apply below_alloc|apply pw_below_drewN|apply below_drew1)|exact HB.out)⟩⟩
      ·
       rw [if_neg c12] at H;exact absurd H (by simp)
     ·
      rw [if_neg c11] at H;have c11b0:decide (0 < (t240.length:Int))=false:=decide_eq_false c11;have c11b1:decide (0 < t240.length)=false:=decide_eq_false (by omega);clear c11;(first|rw [c11b0]|(simp only [i64_w,i32_w];rw [c11b0])|skip);have H':=mk0 H;clear H;go_wp2;go_meet
      case rel=>exact ⟨_,(false),(by first|rfl|(simp;done)|(simp [*];done)),H',⟨by have:=HK1.out;first|omega|exact Nat.le_refl _⟩,⟨by (with_reducible repeat (first|apply Kd.Q_alloc|apply Kd.Q_drewN|apply Kd.Q_drew));exact HO_4.out⟩,⟨by repeat (first|(with_reducible first|exact HB.out|apply below_alloc|apply pw_below_drewN|apply below_drew1)|exact HB.out)⟩⟩
    case rest =>
     clear HC9;try clear c1
     try clear c2
     try clear p2
     try clear q2
     try clear hx2
     try clear qi2
     try clear c3
     try clear c4
     try clear c4b0
     try clear c5
     try clear c5b0
     try clear c6
     try clear c6b0
     try clear p6
     try clear c11
     try clear c11b0
     try clear c11b1
     try clear c12
     try clear c12b0
     try clear c12b1
     try clear hx243_0
     try clear hx244_0
     try clear p2
     try clear p243
     try clear p244
     try clear q243
     try clear q244
     obtain ⟨kq,x28_8,rfl,HA,HJ8,HO_4,HB⟩:=hcut;cases kq with
     | zero=>exact absurd HA.out (by simp [bellpullref02_Derivative.j1])
     | succ kj8 =>
      have H:=HA.out;clear HA;simp only [bellpullref02_Derivative.j1] at H
      by_cases c13:x28_8=true
      ·
       subst c13;have H1:(if 1 ≤ (t240.length:Int) then ((some (t240.drop (1:Int).toNat:List Int)).bind fun y245=>(if (y245.length:Int) > 0 then (if 0 ≤ (wrap64 ((y245.length:Int) - 1)) then (if (wrap64 ((y245.length:Int) - 1)) < (y245.length:Int) then (if (rd y245 (wrap64 ((y245.length:Int) - 1)))=1 then (if (wrap64 ((y245.length:Int) - 1)) ≤ (y245.length:Int) then ((some (y245.take ((wrap64 ((y245.length:Int) - 1)):Int).toNat:List Int)).bind fun y249=>((some (([]:List Int):List Int)).bind fun y252=>(if y252.length + y249.length < 17592186044416 then (some ((y252 ++ y249),true)) else (none)))) else (none)) else ((some (([]:List Int):List Int)).bind fun y258=>(if y258.length + y245.length < 17592186044416 then (some ((y258 ++ y245),true)) else (none)))) else (none)) else (none)) else ((some (([]:List Int):List Int)).bind fun y264=>(if y264.length + y245.length < 17592186044416 then (some ((y264 ++ y245),true)) else (none))))) else (none))=some (r1,r2):=by rw [if_pos rfl] at H;exact H
       clear H;have H:=H1;clear H1
       by_cases c14:1 ≤ (t240.length:Int)
       ·
        rw [if_pos c14] at H;have c14b0:=eq_true c14;have c14b1:decide (1 ≤ (t240.length:Int))=true:=decide_eq_true c14;clear c14;obtain ⟨y245,hy245⟩:∃ y_:List Int,y_=(t240.drop (1:Int).toNat):=⟨_,rfl⟩
        replace H:(if (y245.length:Int) > 0 then (if 0 ≤ (wrap64 ((y245.length:Int) - 1)) then (if (wrap64 ((y245.length:Int) - 1)) < (y245.length:Int) then (if (rd y245 (wrap64 ((y245.length:Int) - 1)))=1 then (if (wrap64 ((y245.length:Int) - 1)) ≤ (y245.length:Int) then ((some (y245.take ((wrap64 ((y245.length:Int) - 1)):Int).toNat:List Int)).bind fun y249=>((some (([]:List Int):List Int)).bind fun y252=>(if y252.length + y249.length < 17592186044416 then (some ((y252 ++ y249),true)) else (none)))) else (none)) else ((some (([]:List Int):List Int)).bind fun y258=>(if y258.length + y245.length < 17592186044416 then (some ((y258 ++ y245),true)) else (none)))) else (none)) else (none)) else ((some (([]:List Int):List Int)).bind fun y264=>(if y264.length + y245.length < 17592186044416 then (some ((y264 ++ y245),true)) else (none))))=some (r1,r2):=by first|(rw [hy245];with_reducible exact H)|(have H2_:=(Option.bind_some _ _).symm.trans H;rw [hy245];with_reducible exact H2_)|(have H2_:=(Option.bind_some _ _).symm.trans H;with_reducible exact H2_)|with_reducible exact H|(rw [hy245];exact H)|exact H
        have Ny245:=mk0 hy245;clear hy245
        by_cases c15:(y245.length:Int) > 0
        ·
         rw [if_pos c15] at H;have c15b0:decide (0 < (y245.length:Int))=true:=decide_eq_true c15;have c15b1:decide (0 < y245.length)=true:=decide_eq_true (by omega);clear c15;obtain ⟨ji16,hji16⟩:∃ j_:Int,(wrap64 ((y245.length:Int) - 1))=j_:=⟨_,rfl⟩
         replace H:(if 0 ≤ (ji16) then (if (ji16) < (y245.length:Int) then (if (rd y245 (ji16))=1 then (if (ji16) ≤ (y245.length:Int) then ((some (y245.take ((ji16):Int).toNat:List Int)).bind fun y249=>((some (([]:List Int):List Int)).bind fun y252=>(if y252.length + y249.length < 17592186044416 then (some ((y252 ++ y249),true)) else (none)))) else (none)) else ((some (([]:List Int):List Int)).bind fun y258=>(if y258.length + y245.length < 17592186044416 then (some ((y258 ++ y245),true)) else (none)))) else (none)) else (none))=some (r1,r2):=by first|(rw [hji16] at H;exact H)|(simp only [hji16] at H ⊢;exact H)
         have hji16w:(IntKind.i64.wrap ((y245.length:Int) - 1))=ji16:=(i64_w _).trans hji16
         by_cases c17:0 ≤ (ji16)
         ·
          rw [if_pos c17] at H;have c17b0:decide (0 ≤ (ji16))=true:=decide_eq_true c17;clear c17
          by_cases c18:(ji16) < (y245.length:Int)
          ·
           rw [if_pos c18] at H;have c18b0:decide ((ji16) < (y245.length:Int))=true:=decide_eq_true c18;clear c18
           by_cases c19:(rd y245 (ji16))=1
           ·
            rw [if_pos c19] at H;have c19b0:((rd y245 (ji16)) == 1)=true:=beq_iff_eq.mpr c19;have c19b1:((rd y245 (ji16)) != 1)=false:=bne_eq_false_iff_eq.mpr c19;clear c19
            by_cases c20:(ji16) ≤ (y245.length:Int)
            ·
             rw [if_pos c20] at H;have c20b0:=eq_true c20;have c20b1:decide ((ji16) ≤ (y245.length:Int))=true:=decide_eq_true c20;clear c20;obtain ⟨y249,hy249⟩:∃ y_:List Int,y_=(y245.take ((ji16):Int).toNat):=⟨_,rfl⟩
             replace H:((some (([]:List Int):List Int)).bind fun y252=>(if y252.length + y249.length < 17592186044416 then (some ((y252 ++ y249),true)) else (none)))=some (r1,r2):=by first|(rw [hy249];with_reducible exact H)|(have H2_:=(Option.bind_some _ _).symm.trans H;rw [hy249];with_reducible exact H2_)|(have H2_:=(Option.bind_some _ _).symm.trans H;with_reducible exact H2_)|with_reducible exact H|(rw [hy249];exact H)|exact H
             have Ny249:=mk0 hy249;clear hy249;obtain ⟨y252,hy252⟩:∃ y_:List Int,y_=(([]:List Int)):=⟨_,rfl⟩
             replace H:(if y252.length + y249.length < 17592186044416 then (some ((y252 ++ y249),true)) else (none))=some (r1,r2):=by first|(rw [hy252];with_reducible exact H)|(have H2_:=(Option.bind_some _ _).symm.trans H;rw [hy252];with_reducible exact H2_)|(have H2_:=(Option.bind_some _ _).symm.trans H;with_reducible exact H2_)|with_reducible exact H|(rw [hy252];exact H)|exact H
             have Ny252:=mk0 hy252;clear hy252
             by_cases c21:y252.length + y249.length < 17592186044416
             ·
              rw [if_pos c21] at H;have LMc21:=mk0 c21;clear c21;obtain ⟨y255,hy255⟩:∃ y_:List Int,y_=(y252 ++ y249):=⟨_,rfl⟩
              replace H:(some (y255,true))=some (r1,r2):=by first|(rw [hy255];with_reducible exact H)|(have H2_:=(Option.bind_some _ _).symm.trans H;rw [hy255];with_reducible exact H2_)|(have H2_:=(Option.bind_some _ _).symm.trans H;with_reducible exact H2_)|with_reducible exact H|(rw [hy255];exact H)|exact H
              have Ny255:=mk0 hy255;clear hy255;simp only [Option.some.injEq,Prod.mk.injEq] at H;obtain ⟨rfl,rfl⟩:=H;have q22:(1:Int) ≤ ((t240.length:Int):Int):=of_decide_eq_true (by first|(with_reducible assumption)|assumption);obtain ⟨i022,hi022,_,hsz22,_⟩:=info_parts info3;have hcut22:=cut_from (P:=Try.prog) 22 3 .i64 Try.underlying22 hi022 1 hsz22 Ao10 t240.length co10 1 (by omega) q22;have hr22:=Kd.Q_drop (k:=(1:Int).toNat) HO_4.out (by omega);obtain ⟨A22,hA22⟩:∃ A1,A1=(if co10=(1:Int).toNat then Ao10 else (Ao10:Option Addr).map (·.add ((1:Int).toNat * 1))):=⟨_,rfl⟩
              obtain ⟨c22,hc22⟩:∃ c1,c1=co10 - (1:Int).toNat:=⟨_,rfl⟩
              have hy22:y245.length=t240.length - (1:Int).toNat:=(by rw [Ny245.out,List.length_drop])
              rw [← Ny245.out] at hr22;rw [← hy22,← hA22,← hc22] at hcut22;replace hr22:Kd.Q (Kd.int .i64) 3 wc w.heap.size (fun _=>True) (.slice A22 y245.length c22) y245:=(by rw [hA22,hc22,hy22];exact hr22)
              have HE22:Aside0 ((Value.slice A22 y245.length c22).ownBlock=(.slice Ao10 t240.length co10:Value).ownBlock):=⟨by rw [hA22];split <;> (cases (Ao10:Option Addr) <;> rfl)⟩
              clear hy22 hi022 hsz22 HO_4 hA22 hc22;have HO247:=mk0 hr22;clear hr22;replace q22:=eq_true q22;have p248:0 ≤ ((ji16):Int):=of_decide_eq_true (by first|(with_reducible assumption)|assumption);have q248:(ji16) < (y245.length:Int):=of_decide_eq_true (by first|(with_reducible assumption)|assumption);obtain ⟨ad248,e248,hx248_0⟩:=Kd.at_int (Kd.Q_reads' HO247.out).2.2 (ji16) p248 q248;cases e248;replace p248:=eq_true p248;replace q248:=eq_true q248;have q23:((ji16):Int) ≤ ((y245.length:Int):Int):=of_decide_eq_true (by first|(with_reducible assumption)|assumption);obtain ⟨i023,hi023,_,hsz23,_⟩:=info_parts info3;have hcut23:=cut_to (P:=Try.prog) 22 3 .i64 Try.underlying22 hi023 (some ad248) y245.length c22 (ji16) (of_decide_eq_true (by first|(with_reducible assumption)|assumption)) q23 (Kd.Q_reads' HO247.out).2.1;have hr23:=Kd.Q_take (m:=((ji16):Int).toNat) HO247.out (by omega);have hy23:y249.length=((ji16):Int).toNat:=(by rw [Ny249.out,List.length_take];omega)
              rw [← Ny249.out] at hr23;rw [← hy23] at hr23 hcut23;clear hy23 hi023 hsz23 HO247;have HO251:=mk0 hr23;clear hr23;replace q23:=eq_true q23;go_wp2_with (first|((with_reducible refine gate_dst (N:=47) rfl ?_);refine Kd.R_lit (Kd.int .i64) _ 3 ?hg (N:=47) ?hd (xs:=([]:List Int)) (inner:=[]) (ok:=fun _=>True) (okp:=fun _=>True) ?hr ?hp (fun _ hk=>hk) trivial (Below.refl _ _) (Nat.le_refl _) (by simp) ?_;(case hd=>rfl);(case hg=>rfl);(case hr=>first|(go_simp;done)|(go_simp;rfl));(case hp=>exact (Reps.none _ _));intro v253 w24 ho25 hb hg_ hnew_;clear hg_ hnew_;(first|rw [← Ny252.out] at ho25|(simp only [Int.reduceToNat] at ho25;rw [← Ny252.out] at ho25));have HO254:=mk0 (Kd.R_lower (Kd.R_new' ho25 (Kd.Q_lt HO251.out)) (below_size HB.out));replace HO251:=mk0 (Kd.Q_elder' HO251.out (Kd.R_base ho25) hb);replace HB:=bst HB hb;clear hb ho25)|((with_reducible refine gate_builtin (b:=.append) (xs:=#[.tmp 47,.tmp 48]) rfl ?_);at_builtin;refine Kd.R_append_rows (Kd.int .i64) (w0:=w) w.heap.size rfl (.tmp 47) (.tmp 48) 22 3 (.int .i64 0) 8 rfl Try.underlying22 info3 rfl (by decide) (by omega) v253 y252 y249 _ _ _ (fun k_=>some k_ ≠ (.slice (some ad248) y249.length c22:Value).ownBlock) (fun _=>False) rfl rfl ?aO ?aR (fun _ _ h=>h) (fun _ h=>h.elim) ?aF ?aB ?aS ?aL ?_;(case aR=>repeat (first|exact (Kd.Q_reads' HO251.out).2.2|(with_reducible refine Kd.C_alloc ?_ _)|(with_reducible refine Kd.C_drewN ?_ _)|(with_reducible refine Kd.C_drew ?_)));(case aB=>exact (by repeat (first|(with_reducible first|exact HB.out|apply below_alloc|apply pw_below_drewN|apply below_drew1)|exact HB.out)));(case aF=>exact (fun k_ hk=>Kd.fresh' (Kd.Q_lt (by (with_reducible repeat (first|apply Kd.Q_alloc|apply Kd.Q_drewN|apply Kd.Q_drew));exact HO251.out)) k_ hk));(case aO=>exact (by (with_reducible repeat (first|apply Kd.R_alloc|apply Kd.R_drewN|apply Kd.R_drew));exact Kd.R_mono HO254.out (fun _ hk=>hk.2)));(case aS=>exact (below_size (by repeat (first|(with_reducible first|exact HB.out|apply below_alloc|apply pw_below_drewN|apply below_drew1)|exact HB.out))));(case aL=>have:=LMc21.out;omega);intro v256 w26 ho hb hg hat;rw [← Ny255.out] at ho;have HO257:=mk0 (ho);replace HO251:=mk0 (Kd.Q_after (ok:=(fun _=>True)) (by (with_reducible repeat (first|apply Kd.Q_alloc|apply Kd.Q_drewN|apply Kd.Q_drew));exact HO251.out) hg hat);replace HB:=mk0 (hb);clear HO254;clear ho hb hg hat));go_ret2;exact ⟨_,by first|rfl|(simp [errW_none,errW_some] <;> rfl)|(simp only [← hji16];first|rfl|(simp [errW_none,errW_some] <;> rfl))|(simp [*,errW_none,errW_some] <;> rfl),by (with_reducible repeat (first|apply Kd.R_alloc|apply Kd.R_drewN|apply Kd.R_drew));exact Kd.R_mono HO257.out (fun _ hk=>trivial),by repeat (first|(with_reducible first|exact HB.out|apply below_alloc|apply pw_below_drewN|apply below_drew1)|exact HB.out)⟩
             ·
              rw [if_neg c21] at H;exact absurd H (by simp)
            ·
             rw [if_neg c20] at H;exact absurd H (by simp)
           ·
            rw [if_neg c19] at H;have c19b0:((rd y245 (ji16)) == 1)=false:=beq_eq_false_iff_ne.mpr c19;have c19b1:((rd y245 (ji16)) != 1)=true:=bne_iff_ne.mpr c19;obtain ⟨y258,hy258⟩:∃ y_:List Int,y_=(([]:List Int)):=⟨_,rfl⟩
            replace H:(if y258.length + y245.length < 17592186044416 then (some ((y258 ++ y245),true)) else (none))=some (r1,r2):=by first|(rw [hy258];with_reducible exact H)|(have H2_:=(Option.bind_some _ _).symm.trans H;rw [hy258];with_reducible exact H2_)|(have H2_:=(Option.bind_some _ _).symm.trans H;with_reducible exact H2_)|with_reducible exact H|(rw [hy258];exact H)|exact H
            have Ny258:=mk0 hy258;clear hy258
            by_cases c27:y258.length + y245.length < 17592186044416
            ·
             rw [if_pos c27] at H;have LMc27:=mk0 c27;clear c27;obtain ⟨y261,hy261⟩:∃ y_:List Int,y_=(y258 ++ y245):=⟨_,rfl⟩
             replace H:(some (y261,true))=some (r1,r2):=by first|(rw [hy261];with_reducible exact H)|(have H2_:=(Option.bind_some _ _).symm.trans H;rw [hy261];with_reducible exact H2_)|(have H2_:=(Option.bind_some _ _).symm.trans H;with_reducible exact H2_)|with_reducible exact H|(rw [hy261];exact H)|exact H
             have Ny261:=mk0 hy261;clear hy261;simp only [Option.some.injEq,Prod.mk.injEq] at H;obtain ⟨rfl,rfl⟩:=H;have q28:(1:Int) ≤ ((t240.length:Int):Int):=of_decide_eq_true (by first|(with_reducible assumption)|assumption);obtain ⟨i028,hi028,_,hsz28,_⟩:=info_parts info3;have hcut28:=cut_from (P:=Try.prog) 22 3 .i64 Try.underlying22 hi028 1 hsz28 Ao10 t240.length co10 1 (by omega) q28;have hr28:=Kd.Q_drop (k:=(1:Int).toNat) HO_4.out (by omega);obtain ⟨A28,hA28⟩:∃ A1,A1=(if co10=(1:Int).toNat then Ao10 else (Ao10:Option Addr).map (·.add ((1:Int).toNat * 1))):=⟨_,rfl⟩
             obtain ⟨c28,hc28⟩:∃ c1,c1=co10 - (1:Int).toNat:=⟨_,rfl⟩
             have hy28:y245.length=t240.length - (1:Int).toNat:=(by rw [Ny245.out,List.length_drop])
             rw [← Ny245.out] at hr28;rw [← hy28,← hA28,← hc28] at hcut28;replace hr28:Kd.Q (Kd.int .i64) 3 wc w.heap.size (fun _=>True) (.slice A28 y245.length c28) y245:=(by rw [hA28,hc28,hy28];exact hr28)
             have HE28:Aside0 ((Value.slice A28 y245.length c28).ownBlock=(.slice Ao10 t240.length co10:Value).ownBlock):=⟨by rw [hA28];split <;> (cases (Ao10:Option Addr) <;> rfl)⟩
             clear hy28 hi028 hsz28 HO_4 hA28 hc28;have HO247:=mk0 hr28;clear hr28;replace q28:=eq_true q28;have p248:0 ≤ ((ji16):Int):=of_decide_eq_true (by first|(with_reducible assumption)|assumption);have q248:(ji16) < (y245.length:Int):=of_decide_eq_true (by first|(with_reducible assumption)|assumption);obtain ⟨ad248,e248,hx248_0⟩:=Kd.at_int (Kd.Q_reads' HO247.out).2.2 (ji16) p248 q248;cases e248;replace p248:=eq_true p248;replace q248:=eq_true q248;go_wp2_with (first|((with_reducible refine gate_dst (N:=47) rfl ?_);refine Kd.R_lit (Kd.int .i64) _ 3 ?hg (N:=47) ?hd (xs:=([]:List Int)) (inner:=[]) (ok:=fun _=>True) (okp:=fun _=>True) ?hr ?hp (fun _ hk=>hk) trivial (Below.refl _ _) (Nat.le_refl _) (by simp) ?_;(case hd=>rfl);(case hg=>rfl);(case hr=>first|(go_simp;done)|(go_simp;rfl));(case hp=>exact (Reps.none _ _));intro v259 w29 ho30 hb hg_ hnew_;clear hg_ hnew_;(first|rw [← Ny258.out] at ho30|(simp only [Int.reduceToNat] at ho30;rw [← Ny258.out] at ho30));have HO260:=mk0 (Kd.R_lower (Kd.R_new' ho30 (Kd.Q_lt HO247.out)) (below_size HB.out));replace HO247:=mk0 (Kd.Q_elder' HO247.out (Kd.R_base ho30) hb);replace HB:=bst HB hb;clear hb ho30)|((with_reducible refine gate_builtin (b:=.append) (xs:=#[.tmp 47,.tmp 48]) rfl ?_);at_builtin;refine Kd.R_append_rows (Kd.int .i64) (w0:=w) w.heap.size rfl (.tmp 47) (.tmp 48) 22 3 (.int .i64 0) 8 rfl Try.underlying22 info3 rfl (by decide) (by omega) v259 y258 y245 _ _ _ (fun k_=>some k_ ≠ (.slice (some ad248) y245.length c28:Value).ownBlock) (fun _=>False) rfl rfl ?aO ?aR (fun _ _ h=>h) (fun _ h=>h.elim) ?aF ?aB ?aS ?aL ?_;(case aR=>repeat (first|exact (Kd.Q_reads' HO247.out).2.2|(with_reducible refine Kd.C_alloc ?_ _)|(with_reducible refine Kd.C_drewN ?_ _)|(with_reducible refine Kd.C_drew ?_)));(case aB=>exact (by repeat (first|(with_reducible first|exact HB.out|apply below_alloc|apply pw_below_drewN|apply below_drew1)|exact HB.out)));(case aF=>exact (fun k_ hk=>Kd.fresh' (Kd.Q_lt (by (with_reducible repeat (first|apply Kd.Q_alloc|apply Kd.Q_drewN|apply Kd.Q_drew));exact HO247.out)) k_ hk));(case aO=>exact (by (with_reducible repeat (first|apply Kd.R_alloc|apply Kd.R_drewN|apply Kd.R_drew));exact Kd.R_mono HO260.out (fun _ hk=>hk.2)));(case aS=>exact (below_size (by repeat (first|(with_reducible first|exact HB.out|apply below_alloc|apply pw_below_drewN|apply below_drew1)|exact HB.out))));(case aL=>have:=LMc27.out;omega);intro v262 w31 ho hb hg hat;rw [← Ny261.out] at ho;have HO263:=mk0 (ho);replace HO247:=mk0 (Kd.Q_after (ok:=(fun _=>True)) (by (with_reducible repeat (first|apply Kd.Q_alloc|apply Kd.Q_drewN|apply Kd.Q_drew));exact HO247.out) hg hat);replace HB:=mk0 (hb);clear HO260;clear ho hb hg hat));go_ret2;exact ⟨_,by first|rfl|(simp [errW_none,errW_some] <;> rfl)|(simp only [← hji16];first|rfl|(simp [errW_none,errW_some] <;> rfl))|(simp [*,errW_none,errW_some] <;> rfl),by (with_reducible repeat (first|apply Kd.R_alloc|apply Kd.R_drewN|apply Kd.R_drew));exact Kd.R_mono HO263.out (fun _ hk=>trivial),by repeat (first|(with_reducible first|exact HB.out|apply below_alloc|apply pw_below_drewN|apply below_drew1)|exact HB.out)⟩
            ·
             rw [if_neg c27] at H;exact absurd H (by simp)
          ·
           rw [if_neg c18] at H;exact absurd H (by simp)
         ·
          rw [if_neg c17] at H;exact absurd H (by simp)
        ·
         rw [if_neg c15] at H;have c15b0:decide (0 < (y245.length:Int))=false:=decide_eq_false c15;have c15b1:decide (0 < y245.length)=false:=decide_eq_false (by omega);clear c15;obtain ⟨y264,hy264⟩:∃ y_:List Int,y_=(([]:List Int)):=⟨_,rfl⟩
         replace H:(if y264.length + y245.length < 17592186044416 then (some ((y264 ++ y245),true)) else (none))=some (r1,r2):=by first|(rw [hy264];with_reducible exact H)|(have H2_:=(Option.bind_some _ _).symm.trans H;rw [hy264];with_reducible exact H2_)|(have H2_:=(Option.bind_some _ _).symm.trans H;with_reducible exact H2_)|with_reducible exact H|(rw [hy264];exact H)|exact H
         have Ny264:=mk0 hy264;clear hy264
         by_cases c32:y264.length + y245.length < 17592186044416
         ·
          rw [if_pos c32] at H;have LMc32:=mk0 c32;clear c32;obtain ⟨y267,hy267⟩:∃ y_:List Int,y_=(y264 ++ y245):=⟨_,rfl⟩
          replace H:(some (y267,true))=some (r1,r2):=by first|(rw [hy267];with_reducible exact H)|(have H2_:=(Option.bind_some _ _).symm.trans H;rw [hy267];with_reducible exact H2_)|(have H2_:=(Option.bind_some _ _).symm.trans H;with_reducible exact H2_)|with_reducible exact H|(rw [hy267];exact H)|exact H
          have Ny267:=mk0 hy267;clear hy267;simp only [Option.some.injEq,Prod.mk.injEq] at H;obtain ⟨rfl,rfl⟩:=H;have q33:(1:Int) ≤ ((t240.length:Int):Int):=of_decide_eq_true (by first|(with_reducible assumption)|assumption);obtain ⟨i033,hi033,_,hsz33,_⟩:=info_parts info3;have hcut33:=cut_from (P:=Try.prog) 22 3 .i64 Try.underlying22 hi033 1 hsz33 Ao10 t240.length co10 1 (by omega) q33;have hr33:=Kd.Q_drop (k:=(1:Int).toNat) HO_4.out (by omega);obtain ⟨A33,hA33⟩:∃ A1,A1=(if co10=(1:Int).toNat then Ao10 else (Ao10:Option Addr).map (·.add ((1:Int).toNat * 1))):=⟨_,rfl⟩
          obtain ⟨c33,hc33⟩:∃ c1,c1=co10 - (1:Int).toNat:=⟨_,rfl⟩
          have hy33:y245.length=t240.length - (1:Int).toNat:=(by rw [Ny245.out,List.length_drop])
          rw [← Ny245.out] at hr33;rw [← hy33,← hA33,← hc33] at hcut33;replace hr33:Kd.Q (Kd.int .i64) 3 wc w.heap.size (fun _=>True) (.slice A33 y245.length c33) y245:=(by rw [hA33,hc33,hy33];exact hr33)
          have HE33:Aside0 ((Value.slice A33 y245.length c33).ownBlock=(.slice Ao10 t240.length co10:Value).ownBlock):=⟨by rw [hA33];split <;> (cases (Ao10:Option Addr) <;> rfl)⟩
          clear hy33 hi033 hsz33 HO_4 hA33 hc33;have HO247:=mk0 hr33;clear hr33;replace q33:=eq_true q33;go_wp2_with (first|((with_reducible refine gate_dst (N:=47) rfl ?_);refine Kd.R_lit (Kd.int .i64) _ 3 ?hg (N:=47) ?hd (xs:=([]:List Int)) (inner:=[]) (ok:=fun _=>True) (okp:=fun _=>True) ?hr ?hp (fun _ hk=>hk) trivial (Below.refl _ _) (Nat.le_refl _) (by simp) ?_;(case hd=>rfl);(case hg=>rfl);(case hr=>first|(go_simp;done)|(go_simp;rfl));(case hp=>exact (Reps.none _ _));intro v265 w34 ho35 hb hg_ hnew_;clear hg_ hnew_;(first|rw [← Ny264.out] at ho35|(simp only [Int.reduceToNat] at ho35;rw [← Ny264.out] at ho35));have HO266:=mk0 (Kd.R_lower (Kd.R_new' ho35 (Kd.Q_lt HO247.out)) (below_size HB.out));replace HO247:=mk0 (Kd.Q_elder' HO247.out (Kd.R_base ho35) hb);replace HB:=bst HB hb;clear hb ho35)|((with_reducible refine gate_builtin (b:=.append) (xs:=#[.tmp 47,.tmp 48]) rfl ?_);at_builtin;refine Kd.R_append_rows (Kd.int .i64) (w0:=w) w.heap.size rfl (.tmp 47) (.tmp 48) 22 3 (.int .i64 0) 8 rfl Try.underlying22 info3 rfl (by decide) (by omega) v265 y264 y245 _ _ _ (fun k_=>some k_ ≠ (.slice A33 y245.length c33:Value).ownBlock) (fun _=>False) rfl rfl ?aO ?aR (fun _ _ h=>h) (fun _ h=>h.elim) ?aF ?aB ?aS ?aL ?_;(case aR=>repeat (first|exact (Kd.Q_reads' HO247.out).2.2|(with_reducible refine Kd.C_alloc ?_ _)|(with_reducible refine Kd.C_drewN ?_ _)|(with_reducible refine Kd.C_drew ?_)));(case aB=>exact (by repeat (first|(with_reducible first|exact HB.out|apply below_alloc|apply pw_below_drewN|apply below_drew1)|exact HB.out)));(case aF=>exact (fun k_ hk=>Kd.fresh' (Kd.Q_lt (by (with_reducible repeat (first|apply Kd.Q_alloc|apply Kd.Q_drewN|apply Kd.Q_drew));exact HO247.out)) k_ hk));(case aO=>exact (by (with_reducible repeat (first|apply Kd.R_alloc|apply Kd.R_drewN|apply Kd.R_drew));exact Kd.R_mono HO266.out (fun _ hk=>hk.2)));(case aS=>exact (below_size (by repeat (first|(with_reducible first|exact HB.out|apply below_alloc|apply pw_below_drewN|apply below_drew1)|exact HB.out))));(case aL=>have:=LMc32.out;omega);intro v268 w36 ho hb hg hat;rw [← Ny267.out] at ho;have HO269:=mk0 (ho);replace HO247:=mk0 (Kd.Q_after (ok:=(fun _=>True)) (by (with_reducible repeat (first|apply Kd.Q_alloc|apply Kd.Q_drewN|apply Kd.Q_drew));exact HO247.out) hg hat);replace HB:=mk0 (hb);clear HO266;clear ho hb hg hat));go_ret2;exact ⟨_,by first|rfl|(simp [errW_none,errW_some] <;> rfl)|(simp [*,errW_none,errW_some] <;> rfl),by (with_reducible repeat (first|apply Kd.R_alloc|apply Kd.R_drewN|apply Kd.R_drew));exact Kd.R_mono HO269.out (fun _ hk=>trivial),by repeat (first|(with_reducible first|exact HB.out|apply below_alloc|apply pw_below_drewN|apply below_drew1)|exact HB.out)⟩
         ·
          rw [if_neg c32] at H;exact absurd H (by simp)
       ·
        rw [if_neg c14] at H;exact absurd H (by simp)
      ·
       replace c13:=Bool.eq_false_iff.mpr c13;subst c13;have H1:(if (t240.length:Int) > 0 then (if 0 ≤ (wrap64 ((t240.length:Int) - 1)) then (if (wrap64 ((t240.length:Int) - 1)) < (t240.length:Int) then (if (rd t240 (wrap64 ((t240.length:Int) - 1)))=1 then (if (wrap64 ((t240.length:Int) - 1)) ≤ (t240.length:Int) then ((some (t240.take ((wrap64 ((t240.length:Int) - 1)):Int).toNat:List Int)).bind fun y271=>((some (([]:List Int):List Int)).bind fun y274=>(if y274.length + y271.length < 17592186044416 then (some ((y274 ++ y271),true)) else (none)))) else (none)) else ((some (([]:List Int):List Int)).bind fun y280=>(if y280.length + t240.length < 17592186044416 then (some ((y280 ++ t240),true)) else (none)))) else (none)) else (none)) else ((some (([]:List Int):List Int)).bind fun y286=>(if y286.length + t240.length < 17592186044416 then (some ((y286 ++ t240),true)) else (none))))=some (r1,r2):=by rw [if_neg (show ¬ (false=true) by decide)] at H;exact H
       clear H;have H:=H1;clear H1
       by_cases c37:(t240.length:Int) > 0
       ·
        rw [if_pos c37] at H;have c37b0:decide (0 < (t240.length:Int))=true:=decide_eq_true c37;have c37b1:decide (0 < t240.length)=true:=decide_eq_true (by omega);clear c37;obtain ⟨ji38,hji38⟩:∃ j_:Int,(wrap64 ((t240.length:Int) - 1))=j_:=⟨_,rfl⟩
        replace H:(if 0 ≤ (ji38) then (if (ji38) < (t240.length:Int) then (if (rd t240 (ji38))=1 then (if (ji38) ≤ (t240.length:Int) then ((some (t240.take ((ji38):Int).toNat:List Int)).bind fun y271=>((some (([]:List Int):List Int)).bind fun y274=>(if y274.length + y271.length < 17592186044416 then (some ((y274 ++ y271),true)) else (none)))) else (none)) else ((some (([]:List Int):List Int)).bind fun y280=>(if y280.length + t240.length < 17592186044416 then (some ((y280 ++ t240),true)) else (none)))) else (none)) else (none))=some (r1,r2):=by first|(rw [hji38] at H;exact H)|(simp only [hji38] at H ⊢;exact H)
        have hji38w:(IntKind.i64.wrap ((t240.length:Int) - 1))=ji38:=(i64_w _).trans hji38
        by_cases c39:0 ≤ (ji38)
        ·
         rw [if_pos c39] at H;have c39b0:decide (0 ≤ (ji38))=true:=decide_eq_true c39;clear c39
         by_cases c40:(ji38) < (t240.length:Int)
         ·
          rw [if_pos c40] at H;have c40b0:decide ((ji38) < (t240.length:Int))=true:=decide_eq_true c40;clear c40
          by_cases c41:(rd t240 (ji38))=1
          ·
           rw [if_pos c41] at H;have c41b0:((rd t240 (ji38)) == 1)=true:=beq_iff_eq.mpr c41;have c41b1:((rd t240 (ji38)) != 1)=false:=bne_eq_false_iff_eq.mpr c41;clear c41
           by_cases c42:(ji38) ≤ (t240.length:Int)
           ·
            rw [if_pos c42] at H;have c42b0:=eq_true c42;have c42b1:decide ((ji38) ≤ (t240.length:Int))=true:=decide_eq_true c42;clear c42;obtain ⟨y271,hy271⟩:∃ y_:List Int,y_=(t240.take ((ji38):Int).toNat):=⟨_,rfl⟩
            replace H:((some (([]:List Int):List Int)).bind fun y274=>(if y274.length + y271.length < 17592186044416 then (some ((y274 ++ y271),true)) else (none)))=some (r1,r2):=by first|(rw [hy271];with_reducible exact H)|(have H2_:=(Option.bind_some _ _).symm.trans H;rw [hy271];with_reducible exact H2_)|(have H2_:=(Option.bind_some _ _).symm.trans H;with_reducible exact H2_)|with_reducible exact H|(rw [hy271];exact H)|exact H
            have Ny271:=mk0 hy271;clear hy271;obtain ⟨y274,hy274⟩:∃ y_:List Int,y_=(([]:List Int)):=⟨_,rfl⟩
            replace H:(if y274.length + y271.length < 17592186044416 then (some ((y274 ++ y271),true)) else (none))=some (r1,r2):=by first|(rw [hy274];with_reducible exact H)|(have H2_:=(Option.bind_some _ _).symm.trans H;rw [hy274];with_reducible exact H2_)|(have H2_:=(Option.bind_some _ _).symm.trans H;with_reducible exact H2_)|with_reducible exact H|(rw [hy274];exact H)|exact H
            have Ny274:=mk0 hy274;clear hy274
            by_cases c43:y274.length + y271.length < 17592186044416
            ·
             rw [if_pos c43] at H;have LMc43:=mk0 c43;clear c43;obtain ⟨y277,hy277⟩:∃ y_:List Int,y_=(y274 ++ y271):=⟨_,rfl⟩
             replace H:(some (y277,true))=some (r1,r2):=by first|(rw [hy277];with_reducible exact H)|(have H2_:=(Option.bind_some _ _).symm.trans H;rw [hy277];with_reducible exact H2_)|(have H2_:=(Option.bind_some _ _).symm.trans H;with_reducible exact H2_)|with_reducible exact H|(rw [hy277];exact H)|exact H
             have Ny277:=mk0 hy277;clear hy277;simp only [Option.some.injEq,Prod.mk.injEq] at H;obtain ⟨rfl,rfl⟩:=H;have p270:0 ≤ ((ji38):Int):=of_decide_eq_true (by first|(with_reducible assumption)|assumption);have q270:(ji38) < (t240.length:Int):=of_decide_eq_true (by first|(with_reducible assumption)|assumption);obtain ⟨ad270,e270,hx270_0⟩:=Kd.at_int (Kd.Q_reads' HO_4.out).2.2 (ji38) p270 q270;cases e270;replace p270:=eq_true p270;replace q270:=eq_true q270;have q44:((ji38):Int) ≤ ((t240.length:Int):Int):=of_decide_eq_true (by first|(with_reducible assumption)|assumption);obtain ⟨i044,hi044,_,hsz44,_⟩:=info_parts info3;have hcut44:=cut_to (P:=Try.prog) 22 3 .i64 Try.underlying22 hi044 (some ad270) t240.length co10 (ji38) (of_decide_eq_true (by first|(with_reducible assumption)|assumption)) q44 (Kd.Q_reads' HO_4.out).2.1;have hr44:=Kd.Q_take (m:=((ji38):Int).toNat) HO_4.out (by omega);have hy44:y271.length=((ji38):Int).toNat:=(by rw [Ny271.out,List.length_take];omega)
             rw [← Ny271.out] at hr44;rw [← hy44] at hr44 hcut44;clear hy44 hi044 hsz44 HO_4;have HO273:=mk0 hr44;clear hr44;replace q44:=eq_true q44;go_wp2_with (first|((with_reducible refine gate_dst (N:=47) rfl ?_);refine Kd.R_lit (Kd.int .i64) _ 3 ?hg (N:=47) ?hd (xs:=([]:List Int)) (inner:=[]) (ok:=fun _=>True) (okp:=fun _=>True) ?hr ?hp (fun _ hk=>hk) trivial (Below.refl _ _) (Nat.le_refl _) (by simp) ?_;(case hd=>rfl);(case hg=>rfl);(case hr=>first|(go_simp;done)|(go_simp;rfl));(case hp=>exact (Reps.none _ _));intro v275 w45 ho46 hb hg_ hnew_;clear hg_ hnew_;(first|rw [← Ny274.out] at ho46|(simp only [Int.reduceToNat] at ho46;rw [← Ny274.out] at ho46));have HO276:=mk0 (Kd.R_lower (Kd.R_new' ho46 (Kd.Q_lt HO273.out)) (below_size HB.out));replace HO273:=mk0 (Kd.Q_elder' HO273.out (Kd.R_base ho46) hb);replace HB:=bst HB hb;clear hb ho46)|((with_reducible refine gate_builtin (b:=.append) (xs:=#[.tmp 47,.tmp 48]) rfl ?_);at_builtin;refine Kd.R_append_rows (Kd.int .i64) (w0:=w) w.heap.size rfl (.tmp 47) (.tmp 48) 22 3 (.int .i64 0) 8 rfl Try.underlying22 info3 rfl (by decide) (by omega) v275 y274 y271 _ _ _ (fun k_=>some k_ ≠ (.slice (some ad270) y271.length co10:Value).ownBlock) (fun _=>False) rfl rfl ?aO ?aR (fun _ _ h=>h) (fun _ h=>h.elim) ?aF ?aB ?aS ?aL ?_;(case aR=>repeat (first|exact (Kd.Q_reads' HO273.out).2.2|(with_reducible refine Kd.C_alloc ?_ _)|(with_reducible refine Kd.C_drewN ?_ _)|(with_reducible refine Kd.C_drew ?_)));(case aB=>exact (by repeat (first|(with_reducible first|exact HB.out|apply below_alloc|apply pw_below_drewN|apply below_drew1)|exact HB.out)));(case aF=>exact (fun k_ hk=>Kd.fresh' (Kd.Q_lt (by (with_reducible repeat (first|apply Kd.Q_alloc|apply Kd.Q_drewN|apply Kd.Q_drew));exact HO273.out)) k_ hk));(case aO=>exact (by (with_reducible repeat (first|apply Kd.R_alloc|apply Kd.R_drewN|apply Kd.R_drew));exact Kd.R_mono HO276.out (fun _ hk=>hk.2)));(case aS=>exact (below_size (by repeat (first|(with_reducible first|exact HB.out|apply below_alloc|apply pw_below_drewN|apply below_drew1)|exact HB.out))));(case aL=>have:=LMc43.out;omega);intro v278 w47 ho hb hg hat;rw [← Ny277.out] at ho;have HO279:=mk0 (ho);replace HO273:=mk0 (Kd.Q_after (ok:=(fun _=>True)) (by (with_reducible repeat (first|apply Kd.Q_alloc|apply Kd.Q_drewN|apply Kd.Q_drew));exact HO273.out) hg hat);replace HB:=mk0 (hb);clear HO276;clear ho hb hg hat));go_ret2;exact ⟨_,by first|rfl|(simp [errW_none,errW_some] <;> rfl)|(simp only [← hji38];first|rfl|(simp [errW_none,errW_some] <;> rfl))|(simp [*,errW_none,errW_some] <;> rfl),by (with_reducible repeat (first|apply Kd.R_alloc|apply Kd.R_drewN|apply Kd.R_drew));exact Kd.R_mono HO279.out (fun _ hk=>trivial),by repeat (first|(with_reducible first|exact HB.out|apply below_alloc|apply pw_below_drewN|apply below_drew1)|exact HB.out)⟩
            ·
             rw [if_neg c43] at H;exact absurd H (by simp)
           ·
            rw [if_neg c42] at H;exact absurd H (by simp)
          ·
           rw [if_neg c41] at H;have c41b0:((rd t240 (ji38)) == 1)=false:=beq_eq_false_iff_ne.mpr c41;have c41b1:((rd t240 (ji38)) != 1)=true:=bne_iff_ne.mpr c41;obtain ⟨y280,hy280⟩:∃ y_:List Int,y_=(([]:List Int)):=⟨_,rfl⟩
           replace H:(if y280.length + t240.length < 17592186044416 then (some ((y280 ++ t240),true)) else (none))=some (r1,r2):=by first|(rw [hy280];with_reducible exact H)|(have H2_:=(Option.bind_some _ _).symm.trans H;rw [hy280];with_reducible exact H2_)|(have H2_:=(Option.bind_some _ _).symm.trans H;with_reducible exact H2_)|with_reducible exact H|(rw [hy280];exact H)|exact H
           have Ny280:=mk0 hy280;clear hy280
           by_cases c48:y280.length + t240.length < 17592186044416
           ·
            rw [if_pos c48] at H;have LMc48:=mk0 c48;clear c48;obtain ⟨y283,hy283⟩:∃ y_:List Int,y_=(y280 ++ t240):=⟨_,rfl⟩
            replace H:(some (y283,true))=some (r1,r2):=by first|(rw [hy283];with_reducible exact H)|(have H2_:=(Option.bind_some _ _).symm.trans H;rw [hy283];with_reducible exact H2_)|(have H2_:=(Option.bind_some _ _).symm.trans H;with_reducible exact H2_)|with_reducible exact H|(rw [hy283];exact H)|exact H
            have Ny283:=mk0 hy283;clear hy283;simp only [Option.some.injEq,Prod.mk.injEq] at H;obtain ⟨rfl,rfl⟩:=H;have p270:0 ≤ ((ji38):Int):=of_decide_eq_true (by first|(with_reducible assumption)|assumption);have q270:(ji38) < (t240.length:Int):=of_decide_eq_true (by first|(with_reducible assumption)|assumption);obtain ⟨ad270,e270,hx270_0⟩:=Kd.at_int (Kd.Q_reads' HO_4.out).2.2 (ji38) p270 q270;cases e270;replace p270:=eq_true p270;replace q270:=eq_true q270;go_wp2_with (first|((with_reducible refine gate_dst (N:=47) rfl ?_);refine Kd.R_lit (Kd.int .i64) _ 3 ?hg (N:=47) ?hd (xs:=([]:List Int)) (inner:=[]) (ok:=fun _=>True) (okp:=fun _=>True) ?hr ?hp (fun _ hk=>hk) trivial (Below.refl _ _) (Nat.le_refl _) (by simp) ?_;(case hd=>rfl);(case hg=>rfl);(case hr=>first|(go_simp;done)|(go_simp;rfl));(case hp=>exact (Reps.none _ _));intro v281 w49 ho50 hb hg_ hnew_;clear hg_ hnew_;(first|rw [← Ny280.out] at ho50|(simp only [Int.reduceToNat] at ho50;rw [← Ny280.out] at ho50));have HO282:=mk0 (Kd.R_lower (Kd.R_new' ho50 (Kd.Q_lt HO_4.out)) (below_size HB.out));replace HO_4:=mk0 (Kd.Q_elder' HO_4.out (Kd.R_base ho50) hb);replace HB:=bst HB hb;clear hb ho50)|((with_reducible refine gate_builtin (b:=.append) (xs:=#[.tmp 47,.tmp 48]) rfl ?_);at_builtin;refine Kd.R_append_rows (Kd.int .i64) (w0:=w) w.heap.size rfl (.tmp 47) (.tmp 48) 22 3 (.int .i64 0) 8 rfl Try.underlying22 info3 rfl (by decide) (by omega) v281 y280 t240 _ _ _ (fun k_=>some k_ ≠ (.slice (some ad270) t240.length co10:Value).ownBlock) (fun _=>False) rfl rfl ?aO ?aR (fun _ _ h=>h) (fun _ h=>h.elim) ?aF ?aB ?aS ?aL ?_;(case aR=>repeat (first|exact (Kd.Q_reads' HO_4.out).2.2|(with_reducible refine Kd.C_alloc ?_ _)|(with_reducible refine Kd.C_drewN ?_ _)|(with_reducible refine Kd.C_drew ?_)));(case aB=>exact (by repeat (first|(with_reducible first|exact HB.out|apply below_alloc|apply pw_below_drewN|apply below_drew1)|exact HB.out)));(case aF=>exact (fun k_ hk=>Kd.fresh' (Kd.Q_lt (by (with_reducible repeat (first|apply Kd.Q_alloc|apply Kd.Q_drewN|apply Kd.Q_drew));exact HO_4.out)) k_ hk));(case aO=>exact (by (with_reducible repeat (first|apply Kd.R_alloc|apply Kd.R_drewN|apply Kd.R_drew));exact Kd.R_mono HO282.out (fun _ hk=>hk.2)));(case aS=>exact (below_size (by repeat (first|(with_reducible first|exact HB.out|apply below_alloc|apply pw_below_drewN|apply below_drew1)|exact HB.out))));(case aL=>have:=LMc48.out;omega);intro v284 w51 ho hb hg hat;rw [← Ny283.out] at ho;have HO285:=mk0 (ho);replace HO_4:=mk0 (Kd.Q_after (ok:=(fun _=>True)) (by (with_reducible repeat (first|apply Kd.Q_alloc|apply Kd.Q_drewN|apply Kd.Q_drew));exact HO_4.out) hg hat);replace HB:=mk0 (hb);clear HO282;clear ho hb hg hat));go_ret2;exact ⟨_,by first|rfl|(simp [errW_none,errW_some] <;> rfl)|(simp only [← hji38];first|rfl|(simp [errW_none,errW_some] <;> rfl))|(simp [*,errW_none,errW_some] <;> rfl),by (with_reducible repeat (first|apply Kd.R_alloc|apply Kd.R_drewN|apply Kd.R_drew));exact Kd.R_mono HO285.out (fun _ hk=>trivial),by repeat (first|(with_reducible first|exact HB.out|apply below_alloc|apply pw_below_drewN|apply below_drew1)|exact HB.out)⟩
           ·
            rw [if_neg c48] at H;exact absurd H (by simp)
         ·
          rw [if_neg c40] at H;exact absurd H (by simp)
        ·
         rw [if_neg c39] at H;exact absurd H (by simp)
       ·
        rw [if_neg c37] at H;have c37b0:decide (0 < (t240.length:Int))=false:=decide_eq_false c37;have c37b1:decide (0 < t240.length)=false:=decide_eq_false (by omega);clear c37;obtain ⟨y286,hy286⟩:∃ y_:List Int,y_=(([]:List Int)):=⟨_,rfl⟩
        replace H:(if y286.length + t240.length < 17592186044416 then (some ((y286 ++ t240),true)) else (none))=some (r1,r2):=by first|(rw [hy286];with_reducible exact H)|(have H2_:=(Option.bind_some _ _).symm.trans H;rw [hy286];with_reducible exact H2_)|(have H2_:=(Option.bind_some _ _).symm.trans H;with_reducible exact H2_)|with_reducible exact H|(rw [hy286];exact H)|exact H
        have Ny286:=mk0 hy286;clear hy286
        by_cases c52:y286.length + t240.length < 17592186044416
        ·
         rw [if_pos c52] at H;have LMc52:=mk0 c52;clear c52;obtain ⟨y289,hy289⟩:∃ y_:List Int,y_=(y286 ++ t240):=⟨_,rfl⟩
         replace H:(some (y289,true))=some (r1,r2):=by first|(rw [hy289];with_reducible exact H)|(have H2_:=(Option.bind_some _ _).symm.trans H;rw [hy289];with_reducible exact H2_)|(have H2_:=(Option.bind_some _ _).symm.trans H;with_reducible exact H2_)|with_reducible exact H|(rw [hy289];exact H)|exact H
         have Ny289:=mk0 hy289;clear hy289;simp only [Option.some.injEq,Prod.mk.injEq] at H;obtain ⟨rfl,rfl⟩:=H;go_wp2_with (first|((with_reducible refine gate_dst (N:=47) rfl ?_);refine Kd.R_lit (Kd.int .i64) _ 3 ?hg (N:=47) ?hd (xs:=([]:List Int)) (inner:=[]) (ok:=fun _=>True) (okp:=fun _=>True) ?hr ?hp (fun _ hk=>hk) trivial (Below.refl _ _) (Nat.le_refl _) (by simp) ?_;(case hd=>rfl);(case hg=>rfl);(case hr=>first|(go_simp;done)|(go_simp;rfl));(case hp=>exact (Reps.none _ _));intro v287 w53 ho54 hb hg_ hnew_;clear hg_ hnew_;(first|rw [← Ny286.out] at ho54|(simp only [Int.reduceToNat] at ho54;rw [← Ny286.out] at ho54));have HO288:=mk0 (Kd.R_lower (Kd.R_new' ho54 (Kd.Q_lt HO_4.out)) (below_size HB.out));replace HO_4:=mk0 (Kd.Q_elder' HO_4.out (Kd.R_base ho54) hb);replace HB:=bst HB hb;clear hb ho54)|((with_reducible refine gate_builtin (b:=.append) (xs:=#[.tmp 47,.tmp 48]) rfl ?_);at_builtin;refine Kd.R_append_rows (Kd.int .i64) (w0:=w) w.heap.size rfl (.tmp 47) (.tmp 48) 22 3 (.int .i64 0) 8 rfl Try.underlying22 info3 rfl (by decide) (by omega) v287 y286 t240 _ _ _ (fun k_=>some k_ ≠ (.slice Ao10 t240.length co10:Value).ownBlock) (fun _=>False) rfl rfl ?aO ?aR (fun _ _ h=>h) (fun _ h=>h.elim) ?aF ?aB ?aS ?aL ?_;(case aR=>repeat (first|exact (Kd.Q_reads' HO_4.out).2.2|(with_reducible refine Kd.C_alloc ?_ _)|(with_reducible refine Kd.C_drewN ?_ _)|(with_reducible refine Kd.C_drew ?_)));(case aB=>exact (by repeat (first|(with_reducible first|exact HB.out|apply below_alloc|apply pw_below_drewN|apply below_drew1)|exact HB.out)));(case aF=>exact (fun k_ hk=>Kd.fresh' (Kd.Q_lt (by (with_reducible repeat (first|apply Kd.Q_alloc|apply Kd.Q_drewN|apply Kd.Q_drew));exact HO_4.out)) k_ hk));(case aO=>exact (by (with_reducible repeat (first|apply Kd.R_alloc|apply Kd.R_drewN|apply Kd.R_drew));exact Kd.R_mono HO288.out (fun _ hk=>hk.2)));(case aS=>exact (below_size (by repeat (first|(with_reducible first|exact HB.out|apply below_alloc|apply pw_below_drewN|apply below_drew1)|exact HB.out))));(case aL=>have:=LMc52.out;omega);intro v290 w55 ho hb hg hat;rw [← Ny289.out] at ho;have HO291:=mk0 (ho);replace HO_4:=mk0 (Kd.Q_after (ok:=(fun _=>True)) (by (with_reducible repeat (first|apply Kd.Q_alloc|apply Kd.Q_drewN|apply Kd.Q_drew));exact HO_4.out) hg hat);replace HB:=mk0 (hb);clear HO288;clear ho hb hg hat));go_ret2;exact ⟨_,by first|rfl|(simp [errW_none,errW_some] <;> rfl)|(simp [*,errW_none,errW_some] <;> rfl),by (with_reducible repeat (first|apply Kd.R_alloc|apply Kd.R_drewN|apply Kd.R_drew));exact Kd.R_mono HO291.out (fun _ hk=>trivial),by repeat (first|(with_reducible first|exact HB.out|apply below_alloc|apply pw_below_drewN|apply below_drew1)|exact HB.out)⟩
        ·
         rw [if_neg c52] at H;exact absurd H (by simp)
end Go.Proofs.Ytploaicljkennaa.PW
