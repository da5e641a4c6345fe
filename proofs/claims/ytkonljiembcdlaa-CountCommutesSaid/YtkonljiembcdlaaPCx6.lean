import Derived.Test.YtkonljiembcdlaaPCx0
namespace Go.Proofs.Ytkonljiembcdlaa.PC
open Go.Proofs.MyWords Go.RowKit Go.Proofs.YtkonljiembcdlaaW.PrintWords Go.Proofs.YtkonljiembcdlaaW.PrintLast Go.Proofs.YtkonljiembcdlaaW.PrintMore
attribute [local go_sem] max2_int min2_int max_two min_two max_three min_three max_four min_four   -- for this text's walks alone
set_option linter.unusedVariables false
set_option linter.unusedSimpArgs false
attribute [local go_sem] eqGuard_slices eqlnil23 neqnil23 eqlnil58 neqnil58
mutual
def bellpulllaw05_code.l0:Nat → List Int → Int → ByteArray → Int → Int → Option (ByteArray)
  | 0,_,_,_,_,_=>none
  | k + 1,x0,x1,x5,x6,x7=>if x7 < (x0.length:Int) then (bellpulllaw05_code.j1 k x0 x1 x5 x6 x7 (decide ((wrap64 ((x5.size:Int) + x6)) < x1))) else (bellpulllaw05_code.j1 k x0 x1 x5 x6 x7 false)
def bellpulllaw05_code.j1:Nat → List Int → Int → ByteArray → Int → Int → Bool → Option (ByteArray)
  | 0,_,_,_,_,_,_=>none
  | k + 1,x0,x1,x5,x6,x7,x20=>if x20=true then (if 0 ≤ x7 then (if x7 < (x0.length:Int) then (if (Int.tmod (rd x0 x7) 10) < 2 then (bellpulllaw05_code.j2 k x0 x1 x5 x6 x7 (Int.tmod (rd x0 x7) 10) (decide (x6 > 1))) else (bellpulllaw05_code.j2 k x0 x1 x5 x6 x7 (Int.tmod (rd x0 x7) 10) false)) else (none)) else (none)) else (if x6=0 then (some (⟨#[101]⟩:ByteArray)) else (bellpulllaw05_code.l1 k x5 x6))
def bellpulllaw05_code.j2:Nat → List Int → Int → ByteArray → Int → Int → Int → Bool → Option (ByteArray)
  | 0,_,_,_,_,_,_,_=>none
  | k + 1,x0,x1,x5,x6,x7,x8,x28=>if x28=true then ((some (([(⟨#[46]⟩:ByteArray),(⟨#[43]⟩:ByteArray)]:List ByteArray):List ByteArray)).bind fun y318=>(if 0 ≤ x8 then (if x8 < (y318.length:Int) then (if x5.size + (rdOf ByteArray.empty y318 x8).size ≤ 9223372036854775807 then (bellpulllaw05_code.l0 k x0 x1 (x5 ++ (rdOf ByteArray.empty y318 x8)) (wrap64 (x6 - 1)) (wrap64 (x7 + 1))) else (none)) else (none)) else (none))) else (if x8=2 then (bellpulllaw05_code.j3 k x0 x1 x5 x6 x7 (decide (x6 > 0))) else (bellpulllaw05_code.j3 k x0 x1 x5 x6 x7 false))
def bellpulllaw05_code.j3:Nat → List Int → Int → ByteArray → Int → Int → Bool → Option (ByteArray)
  | 0,_,_,_,_,_,_=>none
  | k + 1,x0,x1,x5,x6,x7,x43=>if x43=true then (if x5.size + 1 ≤ 9223372036854775807 then (bellpulllaw05_code.l0 k x0 x1 (x5 ++ (⟨#[42]⟩:ByteArray)) x6 (wrap64 (x7 + 1))) else (none)) else (if (wrap64 ((wrap64 ((x5.size:Int) + x6)) + 2)) ≤ x1 then ((some (([(⟨#[97]⟩:ByteArray),(⟨#[98]⟩:ByteArray),(⟨#[99]⟩:ByteArray),(⟨#[101]⟩:ByteArray)]:List ByteArray):List ByteArray)).bind fun y322=>(if 0 ≤ x7 then (if x7 < (x0.length:Int) then (if 0 ≤ (((Int.tdiv (rd x0 x7) 10) % 256) % 4) then (if (((Int.tdiv (rd x0 x7) 10) % 256) % 4) < (y322.length:Int) then (if x5.size + (rdOf ByteArray.empty y322 (((Int.tdiv (rd x0 x7) 10) % 256) % 4)).size ≤ 9223372036854775807 then (bellpulllaw05_code.l0 k x0 x1 (x5 ++ (rdOf ByteArray.empty y322 (((Int.tdiv (rd x0 x7) 10) % 256) % 4))) (wrap64 (x6 + 1)) (wrap64 (x7 + 1))) else (none)) else (none)) else (none)) else (none)) else (none))) else (bellpulllaw05_code.l0 k x0 x1 x5 x6 (wrap64 (x7 + 1))))
def bellpulllaw05_code.l1:Nat → ByteArray → Int → Option (ByteArray)
  | 0,_,_=>none
  | k + 1,x5,x6=>if x6 > 1 then (if x5.size + 1 ≤ 9223372036854775807 then (bellpulllaw05_code.l1 k (x5 ++ (⟨#[46]⟩:ByteArray)) (wrap64 (x6 - 1))) else (none)) else (some x5)
end
def bellpulllaw05_code.f (k:Nat) (l0:List Int) (a1:Int):Option (ByteArray):=bellpulllaw05_code.l0 k l0 a1 (⟨#[]⟩:ByteArray) 0 0
theorem bellpulllaw05_code.mono_l:∀ k,(∀ y0 y1 y2 y3 y4,LeO (bellpulllaw05_code.l0 k y0 y1 y2 y3 y4) (bellpulllaw05_code.l0 (k + 1) y0 y1 y2 y3 y4))∧(∀ y0 y1 y2 y3 y4 y5,LeO (bellpulllaw05_code.j1 k y0 y1 y2 y3 y4 y5) (bellpulllaw05_code.j1 (k + 1) y0 y1 y2 y3 y4 y5))∧(∀ y0 y1 y2 y3 y4 y5 y6,LeO (bellpulllaw05_code.j2 k y0 y1 y2 y3 y4 y5 y6) (bellpulllaw05_code.j2 (k + 1) y0 y1 y2 y3 y4 y5 y6))∧(∀ y0 y1 y2 y3 y4 y5,LeO (bellpulllaw05_code.j3 k y0 y1 y2 y3 y4 y5) (bellpulllaw05_code.j3 (k + 1) y0 y1 y2 y3 y4 y5))∧(∀ y0 y1,LeO (bellpulllaw05_code.l1 k y0 y1) (bellpulllaw05_code.l1 (k + 1) y0 y1))
  | 0=>⟨fun _ _ _ _ _ r h=>by simp [bellpulllaw05_code.l0] at h,fun _ _ _ _ _ _ r h=>by simp [bellpulllaw05_code.j1] at h,fun _ _ _ _ _ _ _ r h=>by simp [bellpulllaw05_code.j2] at h,fun _ _ _ _ _ _ r h=>by simp [bellpulllaw05_code.j3] at h,fun _ _ r h=>by simp [bellpulllaw05_code.l1] at h⟩
  | k + 1=>by
    obtain ⟨ih0,ih1,ih2,ih3,ih4⟩:=bellpulllaw05_code.mono_l k
    refine ⟨?_,?_,?_,?_,?_⟩
    · intro y0 y1 y2 y3 y4
      unfold bellpulllaw05_code.l0
      with_reducible repeat' first|exact ih0 _ _ _ _ _|exact ih1 _ _ _ _ _ _|exact ih2 _ _ _ _ _ _ _|exact ih3 _ _ _ _ _ _|exact ih4 _ _|exact LeO.refl _|exact LeO.none _|refine LeO.ite ?_ ?_|refine LeO.bind ?_ (fun _=>?_)
    · intro y0 y1 y2 y3 y4 y5
      unfold bellpulllaw05_code.j1
      with_reducible repeat' first|exact ih0 _ _ _ _ _|exact ih1 _ _ _ _ _ _|exact ih2 _ _ _ _ _ _ _|exact ih3 _ _ _ _ _ _|exact ih4 _ _|exact LeO.refl _|exact LeO.none _|refine LeO.ite ?_ ?_|refine LeO.bind ?_ (fun _=>?_)
    · intro y0 y1 y2 y3 y4 y5 y6
      unfold bellpulllaw05_code.j2
      with_reducible repeat' first|exact ih0 _ _ _ _ _|exact ih1 _ _ _ _ _ _|exact ih2 _ _ _ _ _ _ _|exact ih3 _ _ _ _ _ _|exact ih4 _ _|exact LeO.refl _|exact LeO.none _|refine LeO.ite ?_ ?_|refine LeO.bind ?_ (fun _=>?_)
    · intro y0 y1 y2 y3 y4 y5
      unfold bellpulllaw05_code.j3
      with_reducible repeat' first|exact ih0 _ _ _ _ _|exact ih1 _ _ _ _ _ _|exact ih2 _ _ _ _ _ _ _|exact ih3 _ _ _ _ _ _|exact ih4 _ _|exact LeO.refl _|exact LeO.none _|refine LeO.ite ?_ ?_|refine LeO.bind ?_ (fun _=>?_)
    · intro y0 y1
      unfold bellpulllaw05_code.l1
      with_reducible repeat' first|exact ih0 _ _ _ _ _|exact ih1 _ _ _ _ _ _|exact ih2 _ _ _ _ _ _ _|exact ih3 _ _ _ _ _ _|exact ih4 _ _|exact LeO.refl _|exact LeO.none _|refine LeO.ite ?_ ?_|refine LeO.bind ?_ (fun _=>?_)
theorem bellpulllaw05_code.mono:∀ a0 a1 k,LeO (bellpulllaw05_code.f k a0 a1) (bellpulllaw05_code.f (k + 1) a0 a1):=by
  intro a0 a1 k
  obtain ⟨ih0,ih1,ih2,ih3,ih4⟩:=bellpulllaw05_code.mono_l k
  unfold bellpulllaw05_code.f
  with_reducible repeat' first|exact ih0 _ _ _ _ _|exact ih1 _ _ _ _ _ _|exact ih2 _ _ _ _ _ _ _|exact ih3 _ _ _ _ _ _|exact ih4 _ _|exact LeO.refl _|exact LeO.none _|refine LeO.ite ?_ ?_|refine LeO.bind ?_ (fun _=>?_)
set_option maxHeartbeats 8000000 in
set_option maxRecDepth 100000 in
theorem bellpulllaw05_code.calls (k:Nat) (A0:Option Addr) (c0:Nat) (l0:List Int) (a1:Int) (r:ByteArray) (w:World) (hr0:Kd.C (Kd.int .u8) w A0 l0.length l0) (hc0:l0.length ≤ c0) (h:bellpulllaw05_code.f k l0 a1=some r) :
    Calls Try.prog 32 #[.slice A0 l0.length c0,.int .i64 a1] w fun e w'=>e=.returned (.string r)∧Below w.heap.size w w':=by
 have HR0:=mk0 hr0;have HC0:=mk0 hc0;clear hr0 hc0;have HB:=mk0 (Below.refl w.heap.size w);have H:(bellpulllaw05_code.l0 k l0 a1 (⟨#[]⟩:ByteArray) 0 0)=some r:=h;clear h;have H':=mk0 H;clear H;go_enter Try.func32,Try.ntmps32;go_wp2
 go_loopg [5,6,7] k (fun kq v5 v6 v7 w'=>∃ (x5_1:ByteArray) (x6_1:Int) (x7_1:Int),v5=.string x5_1∧v6=.int .i64 x6_1∧v7=.int .i64 x7_1∧Aside0 (bellpulllaw05_code.l0 kq l0 a1 x5_1 x6_1 x7_1=some r)∧Aside0 (kq ≤ k)∧Aside0 (Below w.heap.size w w'))
 case atStart=>exact ⟨((⟨#[]⟩:ByteArray)),(0),(0),(by first|rfl|(simp;done)|(simp [*];done)),(by first|rfl|(simp;done)|(simp [*];done)),(by first|rfl|(simp;done)|(simp [*];done)),H',⟨Nat.le_refl _⟩,⟨by repeat (first|(with_reducible first|exact HB.out|apply below_alloc|apply pw_below_drewN|apply below_drew1)|exact HB.out)⟩⟩
 case round =>
  clear H';try clear p2
  obtain ⟨x5_1,x6_1,x7_1,rfl,rfl,rfl,HA,HK1,HB⟩:=hrel;cases gk with
  | zero=>exact absurd HA.out (by simp [bellpulllaw05_code.l0])
  | succ k1 =>
   have H:=HA.out;clear HA;simp only [bellpulllaw05_code.l0] at H;have HC3:=mk0 H;clear H;go_upto_region 3 with (fail)
   go_cut [20] (fun v20 wc=>∃ (kq:Nat) (x20_2:Bool),v20=.bool x20_2∧Aside0 (bellpulllaw05_code.j1 kq l0 a1 x5_1 x6_1 x7_1 x20_2=some r)∧Aside0 (kq ≤ k1)∧Aside0 (Below w.heap.size w wc))
   case first =>
    have H:=HC3.out;clear HC3
    by_cases c4:x7_1 < (l0.length:Int)
    ·
     rw [if_pos c4] at H;have c4b0:decide (x7_1 < (l0.length:Int))=true:=decide_eq_true c4;clear c4;(first|rw [c4b0]|(simp only [i64_w,i32_w];rw [c4b0])|skip);have H':=mk0 H;clear H;go_wp2;go_meet
     case rel=>exact ⟨_,(decide ((wrap64 ((x5_1.size:Int) + x6_1)) < a1)),(by first|rfl|(simp;done)|(simp [*];done)),H',⟨by have:=HK1.out;first|omega|exact Nat.le_refl _⟩,⟨by repeat (first|(with_reducible first|exact HB.out|apply below_alloc|apply pw_below_drewN|apply below_drew1)|exact HB.out)⟩⟩
    ·
     rw [if_neg c4] at H;have c4b0:decide (x7_1 < (l0.length:Int))=false:=decide_eq_false c4;clear c4;(first|rw [c4b0]|(simp only [i64_w,i32_w];rw [c4b0])|skip);have H':=mk0 H;clear H;go_wp2;go_meet
     case rel=>exact ⟨_,(false),(by first|rfl|(simp;done)|(simp [*];done)),H',⟨by have:=HK1.out;first|omega|exact Nat.le_refl _⟩,⟨by repeat (first|(with_reducible first|exact HB.out|apply below_alloc|apply pw_below_drewN|apply below_drew1)|exact HB.out)⟩⟩
   case rest =>
    clear HC3;try clear p2
    try clear c3
    try clear c4
    try clear c4b0
    try clear p2
    obtain ⟨kq,x20_2,rfl,HA,HJ2,HB⟩:=hcut;cases kq with
    | zero=>exact absurd HA.out (by simp [bellpulllaw05_code.j1])
    | succ kj2 =>
     have H:=HA.out;clear HA;simp only [bellpulllaw05_code.j1] at H
     by_cases c5:x20_2=true
     ·
      subst c5;have H1:(if 0 ≤ x7_1 then (if x7_1 < (l0.length:Int) then (if (Int.tmod (rd l0 x7_1) 10) < 2 then (bellpulllaw05_code.j2 kj2 l0 a1 x5_1 x6_1 x7_1 (Int.tmod (rd l0 x7_1) 10) (decide (x6_1 > 1))) else (bellpulllaw05_code.j2 kj2 l0 a1 x5_1 x6_1 x7_1 (Int.tmod (rd l0 x7_1) 10) false)) else (none)) else (none))=some r:=by rw [if_pos rfl] at H;exact H
      clear H;have H:=H1;clear H1
      by_cases c6:0 ≤ x7_1
      ·
       rw [if_pos c6] at H;have c6b0:decide (0 ≤ x7_1)=true:=decide_eq_true c6;clear c6
       by_cases c7:x7_1 < (l0.length:Int)
       ·
        rw [if_pos c7] at H;have c7b0:decide (x7_1 < (l0.length:Int))=true:=decide_eq_true c7;clear c7;have HC8:=mk0 H;clear H;have p317:0 ≤ (x7_1:Int):=of_decide_eq_true (by first|(with_reducible assumption)|assumption);have q317:x7_1 < (l0.length:Int):=of_decide_eq_true (by first|(with_reducible assumption)|assumption);obtain ⟨ad317,e317,hx317_0⟩:=Kd.at_int HR0.out x7_1 p317 q317;cases e317;replace hx317_0:=(HB.out.cell (World.block_lt_of_cell? w _ hx317_0)).trans hx317_0;replace p317:=eq_true p317;replace q317:=eq_true q317;go_upto_region 6 with (fail)
        go_cut [28] (fun v28 wc=>∃ (kq:Nat) (x28_7:Bool),v28=.bool x28_7∧Aside0 (bellpulllaw05_code.j2 kq l0 a1 x5_1 x6_1 x7_1 (Int.tmod (rd l0 x7_1) 10) x28_7=some r)∧Aside0 (kq ≤ kj2)∧Aside0 (Below w.heap.size w wc))
        case first =>
         have H:=HC8.out;clear HC8
         by_cases c9:(Int.tmod (rd l0 x7_1) 10) < 2
         ·
          rw [if_pos c9] at H;have c9b0:decide ((Int.tmod (rd l0 x7_1) 10) < 2)=true:=decide_eq_true c9;clear c9;(first|rw [c9b0]|(simp only [i64_w,i32_w];rw [c9b0])|skip);have H':=mk0 H;clear H;go_wp2;go_meet
          case rel=>exact ⟨_,(decide (x6_1 > 1)),(by first|rfl|(simp;done)|(simp [*];done)),H',⟨by have:=HK1.out;have:=HJ2.out;first|omega|exact Nat.le_refl _⟩,⟨by repeat (first|(with_reducible first|exact HB.out|apply below_alloc|apply pw_below_drewN|apply below_drew1)|exact HB.out)⟩⟩
         ·
          rw [if_neg c9] at H;have c9b0:decide ((Int.tmod (rd l0 x7_1) 10) < 2)=false:=decide_eq_false c9;clear c9;(first|rw [c9b0]|(simp only [i64_w,i32_w];rw [c9b0])|skip);have H':=mk0 H;clear H;go_wp2;go_meet
          case rel=>exact ⟨_,(false),(by first|rfl|(simp;done)|(simp [*];done)),H',⟨by have:=HK1.out;have:=HJ2.out;first|omega|exact Nat.le_refl _⟩,⟨by repeat (first|(with_reducible first|exact HB.out|apply below_alloc|apply pw_below_drewN|apply below_drew1)|exact HB.out)⟩⟩
        case rest =>
         clear HC8;try clear p2
         try clear c3
         try clear p3
         try clear q3
         try clear hx3
         try clear c4
         try clear c4b0
         try clear c5
         try clear c6
         try clear c6b0
         try clear p6
         try clear c7
         try clear c7b0
         try clear c9
         try clear c9b0
         try clear hx317_0
         try clear p2
         try clear p317
         try clear q317
         obtain ⟨kq,x28_7,rfl,HA,HJ7,HB⟩:=hcut;cases kq with
         | zero=>exact absurd HA.out (by simp [bellpulllaw05_code.j2])
         | succ kj7 =>
          have H:=HA.out;clear HA;simp only [bellpulllaw05_code.j2] at H
          by_cases c10:x28_7=true
          ·
           subst c10;have H1:((some (([(⟨#[46]⟩:ByteArray),(⟨#[43]⟩:ByteArray)]:List ByteArray):List ByteArray)).bind fun y318=>(if 0 ≤ (Int.tmod (rd l0 x7_1) 10) then (if (Int.tmod (rd l0 x7_1) 10) < (y318.length:Int) then (if x5_1.size + (rdOf ByteArray.empty y318 (Int.tmod (rd l0 x7_1) 10)).size ≤ 9223372036854775807 then (bellpulllaw05_code.l0 kj7 l0 a1 (x5_1 ++ (rdOf ByteArray.empty y318 (Int.tmod (rd l0 x7_1) 10))) (wrap64 (x6_1 - 1)) (wrap64 (x7_1 + 1))) else (none)) else (none)) else (none)))=some r:=by rw [if_pos rfl] at H;exact H
           clear H;have H:=H1;clear H1;obtain ⟨y318,hy318⟩:∃ y_:List ByteArray,y_=(([(⟨#[46]⟩:ByteArray),(⟨#[43]⟩:ByteArray)]:List ByteArray)):=⟨_,rfl⟩
           replace H:(if 0 ≤ (Int.tmod (rd l0 x7_1) 10) then (if (Int.tmod (rd l0 x7_1) 10) < (y318.length:Int) then (if x5_1.size + (rdOf ByteArray.empty y318 (Int.tmod (rd l0 x7_1) 10)).size ≤ 9223372036854775807 then (bellpulllaw05_code.l0 kj7 l0 a1 (x5_1 ++ (rdOf ByteArray.empty y318 (Int.tmod (rd l0 x7_1) 10))) (wrap64 (x6_1 - 1)) (wrap64 (x7_1 + 1))) else (none)) else (none)) else (none))=some r:=by first|(rw [hy318];with_reducible exact H)|(have H2_:=(Option.bind_some _ _).symm.trans H;rw [hy318];with_reducible exact H2_)|(have H2_:=(Option.bind_some _ _).symm.trans H;with_reducible exact H2_)|with_reducible exact H|(rw [hy318];exact H)|exact H
           have Ny318:=mk0 hy318;clear hy318;obtain ⟨ji11,hji11⟩:∃ j_:Int,(Int.tmod (rd l0 x7_1) 10)=j_:=⟨_,rfl⟩
           replace H:(if 0 ≤ (ji11) then (if (ji11) < (y318.length:Int) then (if x5_1.size + (rdOf ByteArray.empty y318 (ji11)).size ≤ 9223372036854775807 then (bellpulllaw05_code.l0 kj7 l0 a1 (x5_1 ++ (rdOf ByteArray.empty y318 (ji11))) (wrap64 (x6_1 - 1)) (wrap64 (x7_1 + 1))) else (none)) else (none)) else (none))=some r:=by first|(rw [hji11] at H;exact H)|(simp only [hji11] at H ⊢;exact H)
           by_cases c12:0 ≤ (ji11)
           ·
            rw [if_pos c12] at H;have c12b0:decide (0 ≤ (ji11))=true:=decide_eq_true c12;clear c12
            by_cases c13:(ji11) < (y318.length:Int)
            ·
             rw [if_pos c13] at H;have c13b0:decide ((ji11) < (y318.length:Int))=true:=decide_eq_true c13;clear c13
             by_cases c14:x5_1.size + (rdOf ByteArray.empty y318 (ji11)).size ≤ 9223372036854775807
             ·
              rw [if_pos c14] at H;have c14b0:=eq_true c14;have c14b1:decide (x5_1.size + (rdOf ByteArray.empty y318 (ji11)).size ≤ 9223372036854775807)=true:=decide_eq_true c14;try have c14b2:(9223372036854775807 < x5_1.size + (rdOf ByteArray.empty y318 (ji11)).size)=False:=eq_false (Nat.not_lt.2 c14)
              have H':=mk0 H;clear H;go_wp2_with (first|((with_reducible refine gate_dst (N:=36) rfl ?_);(try (refine gate_guard (by rfl) ?_;dsimp only));refine Kd.R_lit Kd.string _ 9 ?hg (N:=36) ?hd (xs:=([(⟨#[46]⟩:ByteArray),(⟨#[43]⟩:ByteArray)]:List ByteArray)) (inner:=[.string (⟨#[46]⟩:ByteArray),.string (⟨#[43]⟩:ByteArray)]) (ok:=fun _=>True) (okp:=fun _=>True) ?hr ?hp (fun _ hk=>hk) trivial (Below.refl _ _) (Nat.le_refl _) (by simp) ?_;(case hd=>rfl);(case hg=>rfl);(case hr=>first|(go_simp;done)|(go_simp;rfl));(case hp=>exact (Reps.one (show Kd.M Kd.string _ _ _ (⟨#[46]⟩:ByteArray) [.string (⟨#[46]⟩:ByteArray)] from rfl) (Reps.one (show Kd.M Kd.string _ _ _ (⟨#[43]⟩:ByteArray) [.string (⟨#[43]⟩:ByteArray)] from rfl) (Reps.none _ _))));intro v319 w15 ho16 hb hg_ hnew_;clear hg_ hnew_;(first|rw [← Ny318.out] at ho16|(simp only [Int.reduceToNat] at ho16;rw [← Ny318.out] at ho16));have HO320:=mk0 (Kd.R_lower ho16 (below_size HB.out));replace HB:=bst HB hb;clear hb ho16;obtain ⟨Ao17,co17,eo17⟩:=Kd.R_slice HO320.out;subst eo17;have p321:0 ≤ ((ji11):Int):=of_decide_eq_true (by first|(with_reducible assumption)|assumption);have q321:(ji11) < (y318.length:Int):=of_decide_eq_true (by first|(with_reducible assumption)|assumption);obtain ⟨ad321,e321,hx321_0⟩:=Kd.at_string (Kd.R_reads' HO320.out).2.2 (ji11) p321 q321;cases e321;replace p321:=eq_true p321;replace q321:=eq_true q321));go_roundg kj7
              case measure=>have:=HK1.out;have:=HJ2.out;have:=HJ7.out;omega
              case rel=>exact ⟨(x5_1 ++ (rdOf ByteArray.empty y318 (ji11))),(wrap64 (x6_1 - 1)),(wrap64 (x7_1 + 1)),(by first|rfl|(simp;done)|(simp only [← hji11] <;> (first|rfl|simp))|(simp [*];done)),(by first|rfl|(simp;done)|(simp [*];done)),(by first|rfl|(simp;done)|(simp [*];done)),H',⟨by have:=HK1.out;have:=HJ2.out;have:=HJ7.out;omega⟩,⟨by repeat (first|(with_reducible first|exact HB.out|apply below_alloc|apply pw_below_drewN|apply below_drew1)|exact HB.out)⟩⟩
             ·
              rw [if_neg c14] at H;exact absurd H (by simp)
            ·
             rw [if_neg c13] at H;exact absurd H (by simp)
           ·
            rw [if_neg c12] at H;exact absurd H (by simp)
          ·
           replace c10:=Bool.eq_false_iff.mpr c10;subst c10;have H1:(if (Int.tmod (rd l0 x7_1) 10)=2 then (bellpulllaw05_code.j3 kj7 l0 a1 x5_1 x6_1 x7_1 (decide (x6_1 > 0))) else (bellpulllaw05_code.j3 kj7 l0 a1 x5_1 x6_1 x7_1 false))=some r:=by rw [if_neg (show ¬ (false=true) by decide)] at H;exact H
           clear H;have H:=H1;clear H1;have HC18:=mk0 H;clear H;go_upto_region 9 with (fail)
           go_cut [43] (fun v43 wc=>∃ (kq:Nat) (x43_17:Bool),v43=.bool x43_17∧Aside0 (bellpulllaw05_code.j3 kq l0 a1 x5_1 x6_1 x7_1 x43_17=some r)∧Aside0 (kq ≤ kj7)∧Aside0 (Below w.heap.size w wc))
           case first =>
            have H:=HC18.out;clear HC18
            by_cases c19:(Int.tmod (rd l0 x7_1) 10)=2
            ·
             rw [if_pos c19] at H;have c19b0:((Int.tmod (rd l0 x7_1) 10) == 2)=true:=beq_iff_eq.mpr c19;have c19b1:((Int.tmod (rd l0 x7_1) 10) != 2)=false:=bne_eq_false_iff_eq.mpr c19;clear c19;(first|rw [c19b0]|(simp only [i64_w,i32_w];rw [c19b0])|skip);have H':=mk0 H;clear H;go_wp2;go_meet
             case rel=>exact ⟨_,(decide (x6_1 > 0)),(by first|rfl|(simp;done)|(simp [*];done)),H',⟨by have:=HK1.out;have:=HJ2.out;have:=HJ7.out;first|omega|exact Nat.le_refl _⟩,⟨by repeat (first|(with_reducible first|exact HB.out|apply below_alloc|apply pw_below_drewN|apply below_drew1)|exact HB.out)⟩⟩
            ·
             rw [if_neg c19] at H;have c19b0:((Int.tmod (rd l0 x7_1) 10) == 2)=false:=beq_eq_false_iff_ne.mpr c19;have c19b1:((Int.tmod (rd l0 x7_1) 10) != 2)=true:=bne_iff_ne.mpr c19;(first|rw [c19b0]|(simp only [i64_w,i32_w];rw [c19b0])|skip);have H':=mk0 H;clear H;go_wp2;go_meet
             case rel=>exact ⟨_,(false),(by first|rfl|(simp;done)|(simp [*];done)),H',⟨by have:=HK1.out;have:=HJ2.out;have:=HJ7.out;first|omega|exact Nat.le_refl _⟩,⟨by repeat (first|(with_reducible first|exact HB.out|apply below_alloc|apply pw_below_drewN|apply below_drew1)|exact HB.out)⟩⟩
           case rest =>
            clear HC18;try clear c1
            try clear p2
            try clear c3
            try clear p3
            try clear q3
            try clear hx3
            try clear c4
            try clear c4b0
            try clear c5
            try clear c6
            try clear c6b0
            try clear p6
            try clear c7
            try clear c7b0
            try clear c9
            try clear c9b0
            try clear c10
            try clear c12
            try clear c12b0
            try clear c13
            try clear c13b0
            try clear c14
            try clear c14b0
            try clear c14b1
            try clear c14b2
            try clear c19
            try clear c19b0
            try clear c19b1
            try clear hx317_0
            try clear hx321_0
            try clear p2
            try clear p3
            try clear p317
            try clear p321
            try clear p6
            try clear q3
            try clear q317
            try clear q321
            obtain ⟨kq,x43_17,rfl,HA,HJ17,HB⟩:=hcut;cases kq with
            | zero=>exact absurd HA.out (by simp [bellpulllaw05_code.j3])
            | succ kj17 =>
             have H:=HA.out;clear HA;simp only [bellpulllaw05_code.j3] at H
             by_cases c20:x43_17=true
             ·
              subst c20;have H1:(if x5_1.size + 1 ≤ 9223372036854775807 then (bellpulllaw05_code.l0 kj17 l0 a1 (x5_1 ++ (⟨#[42]⟩:ByteArray)) x6_1 (wrap64 (x7_1 + 1))) else (none))=some r:=by rw [if_pos rfl] at H;exact H
              clear H;have H:=H1;clear H1
              by_cases c21:x5_1.size + 1 ≤ 9223372036854775807
              ·
               rw [if_pos c21] at H;have c21b0:=eq_true c21;have c21b1:decide (x5_1.size + 1 ≤ 9223372036854775807)=true:=decide_eq_true c21;try have c21b2:(9223372036854775807 < x5_1.size + 1)=False:=eq_false (Nat.not_lt.2 c21)
               have H':=mk0 H;clear H;go_wp2;go_roundg kj17
               case measure=>have:=HK1.out;have:=HJ2.out;have:=HJ7.out;have:=HJ17.out;omega
               case rel=>exact ⟨(x5_1 ++ (⟨#[42]⟩:ByteArray)),(x6_1),(wrap64 (x7_1 + 1)),(by first|rfl|(simp;done)|(simp [*];done)),(by first|rfl|(simp;done)|(simp [*];done)),(by first|rfl|(simp;done)|(simp [*];done)),H',⟨by have:=HK1.out;have:=HJ2.out;have:=HJ7.out;have:=HJ17.out;omega⟩,⟨by repeat (first|(with_reducible first|exact HB.out|apply below_alloc|apply pw_below_drewN|apply below_drew1)|exact HB.out)⟩⟩
              ·
               rw [if_neg c21] at H;exact absurd H (by simp)
             ·
              replace c20:=Bool.eq_false_iff.mpr c20;subst c20;have H1:(if (wrap64 ((wrap64 ((x5_1.size:Int) + x6_1)) + 2)) ≤ a1 then ((some (([(⟨#[97]⟩:ByteArray),(⟨#[98]⟩:ByteArray),(⟨#[99]⟩:ByteArray),(⟨#[101]⟩:ByteArray)]:List ByteArray):List ByteArray)).bind fun y322=>(if 0 ≤ x7_1 then (if x7_1 < (l0.length:Int) then (if 0 ≤ (((Int.tdiv (rd l0 x7_1) 10) % 256) % 4) then (if (((Int.tdiv (rd l0 x7_1) 10) % 256) % 4) < (y322.length:Int) then (if x5_1.size + (rdOf ByteArray.empty y322 (((Int.tdiv (rd l0 x7_1) 10) % 256) % 4)).size ≤ 9223372036854775807 then (bellpulllaw05_code.l0 kj17 l0 a1 (x5_1 ++ (rdOf ByteArray.empty y322 (((Int.tdiv (rd l0 x7_1) 10) % 256) % 4))) (wrap64 (x6_1 + 1)) (wrap64 (x7_1 + 1))) else (none)) else (none)) else (none)) else (none)) else (none))) else (bellpulllaw05_code.l0 kj17 l0 a1 x5_1 x6_1 (wrap64 (x7_1 + 1))))=some r:=by rw [if_neg (show ¬ (false=true) by decide)] at H;exact H
              clear H;have H:=H1;clear H1
              by_cases c22:(wrap64 ((wrap64 ((x5_1.size:Int) + x6_1)) + 2)) ≤ a1
              ·
               rw [if_pos c22] at H;have c22b0:decide ((wrap64 ((wrap64 ((x5_1.size:Int) + x6_1)) + 2)) ≤ a1)=true:=decide_eq_true c22;clear c22;obtain ⟨y322,hy322⟩:∃ y_:List ByteArray,y_=(([(⟨#[97]⟩:ByteArray),(⟨#[98]⟩:ByteArray),(⟨#[99]⟩:ByteArray),(⟨#[101]⟩:ByteArray)]:List ByteArray)):=⟨_,rfl⟩
               replace H:(if 0 ≤ x7_1 then (if x7_1 < (l0.length:Int) then (if 0 ≤ (((Int.tdiv (rd l0 x7_1) 10) % 256) % 4) then (if (((Int.tdiv (rd l0 x7_1) 10) % 256) % 4) < (y322.length:Int) then (if x5_1.size + (rdOf ByteArray.empty y322 (((Int.tdiv (rd l0 x7_1) 10) % 256) % 4)).size ≤ 9223372036854775807 then (bellpulllaw05_code.l0 kj17 l0 a1 (x5_1 ++ (rdOf ByteArray.empty y322 (((Int.tdiv (rd l0 x7_1) 10) % 256) % 4))) (wrap64 (x6_1 + 1)) (wrap64 (x7_1 + 1))) else (none)) else (none)) else (none)) else (none)) else (none))=some r:=by first|(rw [hy322];with_reducible exact H)|(have H2_:=(Option.bind_some _ _).symm.trans H;rw [hy322];with_reducible exact H2_)|(have H2_:=(Option.bind_some _ _).symm.trans H;with_reducible exact H2_)|with_reducible exact H|(rw [hy322];exact H)|exact H
               have Ny322:=mk0 hy322;clear hy322
               by_cases c23:0 ≤ x7_1
               ·
                rw [if_pos c23] at H;have c23b0:decide (0 ≤ x7_1)=true:=decide_eq_true c23;clear c23
                by_cases c24:x7_1 < (l0.length:Int)
                ·
                 rw [if_pos c24] at H;have c24b0:decide (x7_1 < (l0.length:Int))=true:=decide_eq_true c24;clear c24;obtain ⟨ji25,hji25⟩:∃ j_:Int,(((Int.tdiv (rd l0 x7_1) 10) % 256) % 4)=j_:=⟨_,rfl⟩
                 replace H:(if 0 ≤ (ji25) then (if (ji25) < (y322.length:Int) then (if x5_1.size + (rdOf ByteArray.empty y322 (ji25)).size ≤ 9223372036854775807 then (bellpulllaw05_code.l0 kj17 l0 a1 (x5_1 ++ (rdOf ByteArray.empty y322 (ji25))) (wrap64 (x6_1 + 1)) (wrap64 (x7_1 + 1))) else (none)) else (none)) else (none))=some r:=by first|(rw [hji25] at H;exact H)|(simp only [hji25] at H ⊢;exact H)
                 by_cases c26:0 ≤ (ji25)
                 ·
                  rw [if_pos c26] at H;have c26b0:decide (0 ≤ (ji25))=true:=decide_eq_true c26;clear c26
                  by_cases c27:(ji25) < (y322.length:Int)
                  ·
                   rw [if_pos c27] at H;have c27b0:decide ((ji25) < (y322.length:Int))=true:=decide_eq_true c27;clear c27
                   by_cases c28:x5_1.size + (rdOf ByteArray.empty y322 (ji25)).size ≤ 9223372036854775807
                   ·
                    rw [if_pos c28] at H;have c28b0:=eq_true c28;have c28b1:decide (x5_1.size + (rdOf ByteArray.empty y322 (ji25)).size ≤ 9223372036854775807)=true:=decide_eq_true c28;try have c28b2:(9223372036854775807 < x5_1.size + (rdOf ByteArray.empty y322 (ji25)).size)=False:=eq_false (Nat.not_lt.2 c28)
                    have H':=mk0 H;clear H;go_wp2_with (first|((with_reducible refine gate_dst (N:=61) rfl ?_);(try (refine gate_guard (by rfl) ?_;dsimp only));refine Kd.R_lit Kd.string _ 9 ?hg (N:=61) ?hd (xs:=([(⟨#[97]⟩:ByteArray),(⟨#[98]⟩:ByteArray),(⟨#[99]⟩:ByteArray),(⟨#[101]⟩:ByteArray)]:List ByteArray)) (inner:=[.string (⟨#[97]⟩:ByteArray),.string (⟨#[98]⟩:ByteArray),.string (⟨#[99]⟩:ByteArray),.string (⟨#[101]⟩:ByteArray)]) (ok:=fun _=>True) (okp:=fun _=>True) ?hr ?hp (fun _ hk=>hk) trivial (Below.refl _ _) (Nat.le_refl _) (by simp) ?_;(case hd=>rfl);(case hg=>rfl);(case hr=>first|(go_simp;done)|(go_simp;rfl));(case hp=>exact (Reps.one (show Kd.M Kd.string _ _ _ (⟨#[97]⟩:ByteArray) [.string (⟨#[97]⟩:ByteArray)] from rfl) (Reps.one (show Kd.M Kd.string _ _ _ (⟨#[98]⟩:ByteArray) [.string (⟨#[98]⟩:ByteArray)] from rfl) (Reps.one (show Kd.M Kd.string _ _ _ (⟨#[99]⟩:ByteArray) [.string (⟨#[99]⟩:ByteArray)] from rfl) (Reps.one (show Kd.M Kd.string _ _ _ (⟨#[101]⟩:ByteArray) [.string (⟨#[101]⟩:ByteArray)] from rfl) (Reps.none _ _))))));intro v323 w29 ho30 hb hg_ hnew_;clear hg_ hnew_;(first|rw [← Ny322.out] at ho30|(simp only [Int.reduceToNat] at ho30;rw [← Ny322.out] at ho30));have HO324:=mk0 (Kd.R_lower ho30 (below_size HB.out));replace HB:=bst HB hb;clear hb ho30;have p325:0 ≤ (x7_1:Int):=of_decide_eq_true (by first|(with_reducible assumption)|assumption);have q325:x7_1 < (l0.length:Int):=of_decide_eq_true (by first|(with_reducible assumption)|assumption);obtain ⟨ad325,e325,hx325_0⟩:=Kd.at_int HR0.out x7_1 p325 q325;obtain rfl:ad317=ad325:=(by injection e325);replace hx325_0:=(HB.out.cell (World.block_lt_of_cell? w _ hx325_0)).trans hx325_0;replace p325:=eq_true p325;replace q325:=eq_true q325;obtain ⟨Ao31,co31,eo31⟩:=Kd.R_slice HO324.out;subst eo31;have p326:0 ≤ ((ji25):Int):=of_decide_eq_true (by first|(with_reducible assumption)|assumption);have q326:(ji25) < (y322.length:Int):=of_decide_eq_true (by first|(with_reducible assumption)|assumption);obtain ⟨ad326,e326,hx326_0⟩:=Kd.at_string (Kd.R_reads' HO324.out).2.2 (ji25) p326 q326;cases e326;replace p326:=eq_true p326;replace q326:=eq_true q326));go_roundg kj17
                    case measure=>have:=HK1.out;have:=HJ2.out;have:=HJ7.out;have:=HJ17.out;omega
                    case rel=>exact ⟨(x5_1 ++ (rdOf ByteArray.empty y322 (ji25))),(wrap64 (x6_1 + 1)),(wrap64 (x7_1 + 1)),(by first|rfl|(simp;done)|(simp only [← hji25] <;> (first|rfl|simp))|(simp [*];done)),(by first|rfl|(simp;done)|(simp [*];done)),(by first|rfl|(simp;done)|(simp [*];done)),H',⟨by have:=HK1.out;have:=HJ2.out;have:=HJ7.out;have:=HJ17.out;omega⟩,⟨by repeat (first|(with_reducible first|exact HB.out|apply below_alloc|apply pw_below_drewN|apply below_drew1)|exact HB.out)⟩⟩
                   ·
                    rw [if_neg c28] at H;exact absurd H (by simp)
                  ·
                   rw [if_neg c27] at H;exact absurd H (by simp)
                 ·
                  rw [if_neg c26] at H;exact absurd H (by simp)
                ·
                 rw [if_neg c24] at H;exact absurd H (by simp)
               ·
                rw [if_neg c23] at H;exact absurd H (by simp)
              ·
               rw [if_neg c22] at H;have c22b0:decide ((wrap64 ((wrap64 ((x5_1.size:Int) + x6_1)) + 2)) ≤ a1)=false:=decide_eq_false c22;clear c22;have H':=mk0 H;clear H;go_wp2;go_roundg kj17
               case measure=>have:=HK1.out;have:=HJ2.out;have:=HJ7.out;have:=HJ17.out;omega
               case rel=>exact ⟨(x5_1),(x6_1),(wrap64 (x7_1 + 1)),(by first|rfl|(simp;done)|(simp [*];done)),(by first|rfl|(simp;done)|(simp [*];done)),(by first|rfl|(simp;done)|(simp [*];done)),H',⟨by have:=HK1.out;have:=HJ2.out;have:=HJ7.out;have:=HJ17.out;omega⟩,⟨by repeat (first|(with_reducible first|exact HB.out|apply below_alloc|apply pw_below_drewN|apply below_drew1)|exact HB.out)⟩⟩
       ·
        rw [if_neg c7] at H;exact absurd H (by simp)
      ·
       rw [if_neg c6] at H;exact absurd H (by simp)
     ·
      replace c5:=Bool.eq_false_iff.mpr c5;subst c5;have H1:(if x6_1=0 then (some (⟨#[101]⟩:ByteArray)) else (bellpulllaw05_code.l1 kj2 x5_1 x6_1))=some r:=by rw [if_neg (show ¬ (false=true) by decide)] at H;exact H
      clear H;have H:=H1;clear H1
      by_cases c32:x6_1=0
      ·
       rw [if_pos c32] at H;have c32b0:(x6_1 == 0)=true:=beq_iff_eq.mpr c32;have c32b1:(x6_1 != 0)=false:=bne_eq_false_iff_eq.mpr c32;clear c32;obtain rfl:=Option.some.inj H;go_wp2;go_ret;exact ⟨by first|rfl|(simp [errW_none,errW_some] <;> rfl)|(simp [*,errW_none,errW_some] <;> rfl),by repeat (first|(with_reducible first|exact HB.out|apply below_alloc|apply pw_below_drewN|apply below_drew1)|exact HB.out)⟩
      ·
       rw [if_neg c32] at H;have c32b0:(x6_1 == 0)=false:=beq_eq_false_iff_ne.mpr c32;have c32b1:(x6_1 != 0)=true:=bne_iff_ne.mpr c32;have H':=mk0 H;clear H;go_wp2
       go_loopg [5,6] kj2 (fun kq v5 v6 w'=>∃ (x5_3:ByteArray) (x6_3:Int),v5=.string x5_3∧v6=.int .i64 x6_3∧Aside0 (bellpulllaw05_code.l1 kq x5_3 x6_3=some r)∧Aside0 (kq ≤ kj2)∧Aside0 (Below w.heap.size w w'))
       case atStart=>exact ⟨(x5_1),(x6_1),(by first|rfl|(simp;done)|(simp [*];done)),(by first|rfl|(simp;done)|(simp [*];done)),H',⟨Nat.le_refl _⟩,⟨by repeat (first|(with_reducible first|exact HB.out|apply below_alloc|apply pw_below_drewN|apply below_drew1)|exact HB.out)⟩⟩
       case round =>
        clear H';try clear c1
        try clear c2
        try clear p2
        try clear c3
        try clear p3
        try clear q3
        try clear hx3
        try clear c4
        try clear c4b0
        try clear c5
        try clear c6
        try clear c6b0
        try clear p6
        try clear c7
        try clear c7b0
        try clear c9
        try clear c9b0
        try clear c10
        try clear c12
        try clear c12b0
        try clear c13
        try clear c13b0
        try clear c14
        try clear c14b0
        try clear c14b1
        try clear c14b2
        try clear c19
        try clear c19b0
        try clear c19b1
        try clear c20
        try clear c21
        try clear c21b0
        try clear c21b1
        try clear c21b2
        try clear c22
        try clear c22b0
        try clear c23
        try clear c23b0
        try clear c24
        try clear c24b0
        try clear c26
        try clear c26b0
        try clear c27
        try clear c27b0
        try clear c28
        try clear c28b0
        try clear c28b1
        try clear c28b2
        try clear p31
        try clear q31
        try clear hx31
        try clear c32
        try clear c32b0
        try clear c32b1
        try clear p32
        try clear q32
        try clear hx32
        try clear hx317_0
        try clear hx321_0
        try clear hx325_0
        try clear hx326_0
        try clear p2
        try clear p3
        try clear p317
        try clear p321
        try clear p325
        try clear p326
        try clear p6
        try clear q3
        try clear q317
        try clear q321
        try clear q325
        try clear q326
        obtain ⟨x5_3,x6_3,rfl,rfl,HA,HK3,HB⟩:=hrel;cases gk with
        | zero=>exact absurd HA.out (by simp [bellpulllaw05_code.l1])
        | succ k3 =>
         have H:=HA.out;clear HA;simp only [bellpulllaw05_code.l1] at H
         by_cases c33:x6_3 > 1
         ·
          rw [if_pos c33] at H;have c33b0:decide (1 < x6_3)=true:=decide_eq_true c33;clear c33
          by_cases c34:x5_3.size + 1 ≤ 9223372036854775807
          ·
           rw [if_pos c34] at H;have c34b0:=eq_true c34;have c34b1:decide (x5_3.size + 1 ≤ 9223372036854775807)=true:=decide_eq_true c34;try have c34b2:(9223372036854775807 < x5_3.size + 1)=False:=eq_false (Nat.not_lt.2 c34)
           have H':=mk0 H;clear H;go_wp2;go_roundg k3
           case measure=>have:=HK1.out;have:=HJ2.out;have:=HK3.out;omega
           case rel=>exact ⟨(x5_3 ++ (⟨#[46]⟩:ByteArray)),(wrap64 (x6_3 - 1)),(by first|rfl|(simp;done)|(simp [*];done)),(by first|rfl|(simp;done)|(simp [*];done)),H',⟨by have:=HK1.out;have:=HJ2.out;have:=HK3.out;omega⟩,⟨by repeat (first|(with_reducible first|exact HB.out|apply below_alloc|apply pw_below_drewN|apply below_drew1)|exact HB.out)⟩⟩
          ·
           rw [if_neg c34] at H;exact absurd H (by simp)
         ·
          rw [if_neg c33] at H;have c33b0:decide (1 < x6_3)=false:=decide_eq_false c33;clear c33;obtain rfl:=Option.some.inj H;go_wp2;go_ret;exact ⟨by first|rfl|(simp [errW_none,errW_some] <;> rfl)|(simp [*,errW_none,errW_some] <;> rfl),by repeat (first|(with_reducible first|exact HB.out|apply below_alloc|apply pw_below_drewN|apply below_drew1)|exact HB.out)⟩
end Go.Proofs.Ytkonljiembcdlaa.PC
