import Derived.Test.YtkonljiembcdlaaPCx0
import Derived.Test.YtkonljiembcdlaaPCx1
import Derived.Test.YtkonljiembcdlaaPCx2
import Derived.Test.YtkonljiembcdlaaPCx4
import Derived.Test.YtkonljiembcdlaaPCx5
import Derived.Test.YtkonljiembcdlaaWMore
import Derived.Test.YtkonljiembcdlaaPCx3
import Derived.Test.YtkonljiembcdlaaMach
import Derived.Test.YtkonljiembcdlaaProg
import Derived.WalkKit
import Derived.ProofKit
import Derived.OpenShut
import Derived.Lib.SmallJoins
import Derived.SizedLaws
namespace Go.Proofs.Ytkonljiembcdlaa.PC
open Go.Proofs.MyWords Go.RowKit Go.Proofs.YtkonljiembcdlaaW.PrintWords Go.Proofs.YtkonljiembcdlaaW.PrintLast Go.Proofs.YtkonljiembcdlaaW.PrintMore
attribute [local go_sem] max2_int min2_int max_two min_two max_three min_three max_four min_four   -- for this text's walks alone
set_option linter.unusedVariables false
set_option linter.unusedSimpArgs false
attribute [local go_sem] eqGuard_slices eqlnil23 neqnil23 eqlnil58 neqnil58
mutual
def bellpulllaw05_code.l0:Nat → List Int → Int → ByteArray → Int → Int → Option (ByteArray)
  | 0,_,_,_,_,_=>none
  | k + 1,x0,x1,x5,x6,x7=>if x7 < (x0.length:Int) then (bellpulllaw05_code.j1 k x0 x1 x5 x6 x7 (decide ((wrap64 ((x5.size:Int) + x6)) < x1))) else (bellpulllaw05_code.j1 k x0 x1 x5 x6 x7 false)
def bellpulllaw05_code.j1:Nat → List Int → Int → ByteArray → Int → Int → Bool → Option (ByteArray)
  | 0,_,_,_,_,_,_=>none
  | k + 1,x0,x1,x5,x6,x7,x20=>if x20=true then (if 0 ≤ x7 then (if x7 < (x0.length:Int) then (if (Int.tmod (rd x0 x7) 10) < 2 then (bellpulllaw05_code.j2 k x0 x1 x5 x6 x7 (Int.tmod (rd x0 x7) 10) (decide (x6 > 1))) else (bellpulllaw05_code.j2 k x0 x1 x5 x6 x7 (Int.tmod (rd x0 x7) 10) false)) else (none)) else (none)) else (if x6=0 then (some (⟨#[101]⟩:ByteArray)) else (bellpulllaw05_code.l1 k x5 x6))
def bellpulllaw05_code.j2:Nat → List Int → Int → ByteArray → Int → Int → Int → Bool → Option (ByteArray)
  | 0,_,_,_,_,_,_,_=>none
  | k + 1,x0,x1,x5,x6,x7,x8,x28=>if x28=true then ((some (([(⟨#[46]⟩:ByteArray),(⟨#[43]⟩:ByteArray)]:List ByteArray):List ByteArray)).bind fun y318=>(if 0 ≤ x8 then (if x8 < (y318.length:Int) then (if x5.size + (rdOf ByteArray.empty y318 x8).size ≤ 9223372036854775807 then (bellpulllaw05_code.l0 k x0 x1 (x5 ++ (rdOf ByteArray.empty y318 x8)) (wrap64 (x6 - 1)) (wrap64 (x7 + 1))) else (none)) else (none)) else (none))) else (if x8=2 then (bellpulllaw05_code.j3 k x0 x1 x5 x6 x7 (decide (x6 > 0))) else (bellpulllaw05_code.j3 k x0 x1 x5 x6 x7 false))
def bellpulllaw05_code.j3:Nat → List Int → Int → ByteArray → Int → Int → Bool → Option (ByteArray)
  | 0,_,_,_,_,_,_=>none
  | k + 1,x0,x1,x5,x6,x7,x43=>if x43=true then (if x5.size + 1 ≤ 9223372036854775807 then (bellpulllaw05_code.l0 k x0 x1 (x5 ++ (⟨#[42]⟩:ByteArray)) x6 (wrap64 (x7 + 1))) else (none)) else (if (wrap64 ((wrap64 ((x5.size:Int) + x6)) + 2)) ≤ x1 then ((some (([(⟨#[97]⟩:ByteArray),(⟨#[98]⟩:ByteArray),(⟨#[99]⟩:ByteArray),(⟨#[101]⟩:ByteArray)]:List ByteArray):List ByteArray)).bind fun y322=>(if 0 ≤ x7 then (if x7 < (x0.length:Int) then (if 0 ≤ (((Int.tdiv (rd x0 x7) 10) % 256) % 4) then (if (((Int.tdiv (rd x0 x7) 10) % 256) % 4) < (y322.length:Int) then (if x5.size + (rdOf ByteArray.empty y322 (((Int.tdiv (rd x0 x7) 10) % 256) % 4)).size ≤ 9223372036854775807 then (bellpulllaw05_code.l0 k x0 x1 (x5 ++ (rdOf ByteArray.empty y322 (((Int.tdiv (rd x0 x7) 10) % 256) % 4))) (wrap64 (x6 + 1)) (wrap64 (x7 + 1))) else (none)) else (none)) else (none)) else (none)) else (none))) else (bellpulllaw05_code.l0 k x0 x1 x5 x6 (wrap64 (x7 + 1))))
def bellpulllaw05_code.l1:Nat → ByteArray → Int → Option (ByteArray)
  | 0,_,_=>none
  | k + 1,x5,x6=>if x6 > 1 then (if x5.size + 1 ≤ 9223372036854775807 then (bellpulllaw05_code.l1 k (x5 ++ (⟨#[46]⟩:ByteArray)) (wrap64 (x6 - 1))) else (none)) else (some x5)
end
def bellpulllaw05_code.f (k:Nat) (l0:List Int) (a1:Int):Option (ByteArray):=bellpulllaw05_code.l0 k l0 a1 (⟨#[]⟩:ByteArray) 0 0
theorem bellpulllaw05_code.mono_l:∀ k,(∀ B C D E F,LeO (bellpulllaw05_code.l0 k B C D E F) (bellpulllaw05_code.l0 (k + 1) B C D E F))∧(∀ B C D E F G,LeO (bellpulllaw05_code.j1 k B C D E F G) (bellpulllaw05_code.j1 (k + 1) B C D E F G))∧(∀ B C D E F G O,LeO (bellpulllaw05_code.j2 k B C D E F G O) (bellpulllaw05_code.j2 (k + 1) B C D E F G O))∧(∀ B C D E F G,LeO (bellpulllaw05_code.j3 k B C D E F G) (bellpulllaw05_code.j3 (k + 1) B C D E F G))∧(∀ B C,LeO (bellpulllaw05_code.l1 k B C) (bellpulllaw05_code.l1 (k + 1) B C))
  | 0=>⟨fun _ _ _ _ _ r h=>by simp [bellpulllaw05_code.l0] at h,fun _ _ _ _ _ _ r h=>by simp [bellpulllaw05_code.j1] at h,fun _ _ _ _ _ _ _ r h=>by simp [bellpulllaw05_code.j2] at h,fun _ _ _ _ _ _ r h=>by simp [bellpulllaw05_code.j3] at h,fun _ _ r h=>by simp [bellpulllaw05_code.l1] at h⟩
  | k + 1=>by
    obtain ⟨I,J,L,M,N⟩:=bellpulllaw05_code.mono_l k
    refine ⟨?_,?_,?_,?_,?_⟩
    · intro B C D E F
      unfold bellpulllaw05_code.l0
      with_reducible repeat' first|exact I _ _ _ _ _|exact J _ _ _ _ _ _|exact L _ _ _ _ _ _ _|exact M _ _ _ _ _ _|exact N _ _|exact LeO.refl _|exact LeO.none _|refine LeO.ite ?_ ?_|refine LeO.bind ?_ (fun _=>?_)
    · intro B C D E F G
      unfold bellpulllaw05_code.j1
      with_reducible repeat' first|exact I _ _ _ _ _|exact J _ _ _ _ _ _|exact L _ _ _ _ _ _ _|exact M _ _ _ _ _ _|exact N _ _|exact LeO.refl _|exact LeO.none _|refine LeO.ite ?_ ?_|refine LeO.bind ?_ (fun _=>?_)
    · intro B C D E F G O
      unfold bellpulllaw05_code.j2
      with_reducible repeat' first|exact I _ _ _ _ _|exact J _ _ _ _ _ _|exact L _ _ _ _ _ _ _|exact M _ _ _ _ _ _|exact N _ _|exact LeO.refl _|exact LeO.none _|refine LeO.ite ?_ ?_|refine LeO.bind ?_ (fun _=>?_)
    · intro B C D E F G
      unfold bellpulllaw05_code.j3
      with_reducible repeat' first|exact I _ _ _ _ _|exact J _ _ _ _ _ _|exact L _ _ _ _ _ _ _|exact M _ _ _ _ _ _|exact N _ _|exact LeO.refl _|exact LeO.none _|refine LeO.ite ?_ ?_|refine LeO.bind ?_ (fun _=>?_)
    · intro B C
      unfold bellpulllaw05_code.l1
      with_reducible repeat' first|exact I _ _ _ _ _|exact J _ _ _ _ _ _|exact L _ _ _ _ _ _ _|exact M _ _ _ _ _ _|exact N _ _|exact LeO.refl _|exact LeO.none _|refine LeO.ite ?_ ?_|refine LeO.bind ?_ (fun _=>?_)
theorem bellpulllaw05_code.mono:∀ a0 a1 k,LeO (bellpulllaw05_code.f k a0 a1) (bellpulllaw05_code.f (k + 1) a0 a1):=by
  intro a0 a1 k
  obtain ⟨ih0,ih1,ih2,ih3,ih4⟩:=bellpulllaw05_code.mono_l k
  unfold bellpulllaw05_code.f
  with_reducible repeat' first|exact ih0 _ _ _ _ _|exact ih1 _ _ _ _ _ _|exact ih2 _ _ _ _ _ _ _|exact ih3 _ _ _ _ _ _|exact ih4 _ _|exact LeO.refl _|exact LeO.none _|refine LeO.ite ?_ ?_|refine LeO.bind ?_ (fun _=>?_)
set_option maxHeartbeats 8000000 in
set_option maxRecDepth 100000 in
theorem bellpulllaw05_code.calls (k:Nat) (A0:Option Addr) (c0:Nat) (F:List Int) (R:Int) (r:ByteArray) (w:World) (e5:Kd.C (Kd.int .u8) w A0 F.length F) (e6:F.length ≤ c0) (h:bellpulllaw05_code.f k F R=some r) :
    Calls Try.prog 32 #[.slice A0 F.length c0,.int .i64 R] w fun e w'=>e=.returned (.string r)∧Below w.heap.size w w':=by
 have e7:=mk0 e5;have h1:=mk0 e6;clear e5 e6;have G:=mk0 (Below.refl w.heap.size w);have H:(bellpulllaw05_code.l0 k F R (⟨#[]⟩:ByteArray) 0 0)=some r:=h;clear h;have H':=mk0 H;clear H;go_enter Try.func32,Try.ntmps32;go_wp2
 go_loopg [5,6,7] k (fun kq v5 v6 v7 w'=>∃ (D:ByteArray) (E:Int) (B:Int),v5=.string D∧v6=.int .i64 E∧v7=.int .i64 B∧Aside0 (bellpulllaw05_code.l0 kq F R D E B=some r)∧Aside0 (kq ≤ k)∧Aside0 (Below w.heap.size w w'))
 case atStart=>exact ⟨((⟨#[]⟩:ByteArray)),(0),(0),(by first|rfl|(simp;done)|(simp [*];done)),(by first|rfl|(simp;done)|(simp [*];done)),(by first|rfl|(simp;done)|(simp [*];done)),H',⟨Nat.le_refl _⟩,⟨by repeat (first|(with_reducible first|exact G.1|apply below_alloc|apply pw_below_drewN|apply below_drew1)|exact G.1)⟩⟩
 case round =>
  clear H';try clear p2
  obtain ⟨D,E,B,rfl,rfl,rfl,HA,Q,G⟩:=hrel;cases gk with
  | zero=>exact absurd HA.1 (by simp [bellpulllaw05_code.l0])
  | succ k1 =>
   have H:=HA.1;clear HA;simp only [bellpulllaw05_code.l0] at H;have e1:=mk0 H;clear H;go_upto_region 3 with (fail)
   go_cut [20] (fun f9 wc=>∃ (kq:Nat) (a8:Bool),f9=.bool a8∧Aside0 (bellpulllaw05_code.j1 kq F R D E B a8=some r)∧Aside0 (kq ≤ k1)∧Aside0 (Below w.heap.size w wc))
   case first =>
    have H:=e1.1;clear e1
    by_cases c4:B < (F.length:Int)
    ·
     rw [if_pos c4] at H;have c4b0:decide (B < (F.length:Int))=true:=decide_eq_true c4;clear c4;(first|rw [c4b0]|(simp only [i64_w,i32_w];rw [c4b0])|skip);have H':=mk0 H;clear H;go_wp2;go_meet
     case rel=>exact ⟨_,(decide ((wrap64 ((D.size:Int) + E)) < R)),(by first|rfl|(simp;done)|(simp [*];done)),H',⟨by have:=Q.1;first|omega|exact Nat.le_refl _⟩,⟨by repeat (first|(with_reducible first|exact G.1|apply below_alloc|apply pw_below_drewN|apply below_drew1)|exact G.1)⟩⟩
    ·
     rw [if_neg c4] at H;have c4b0:decide (B < (F.length:Int))=false:=decide_eq_false c4;clear c4;(first|rw [c4b0]|(simp only [i64_w,i32_w];rw [c4b0])|skip);have H':=mk0 H;clear H;go_wp2;go_meet
     case rel=>exact ⟨_,(false),(by first|rfl|(simp;done)|(simp [*];done)),H',⟨by have:=Q.1;first|omega|exact Nat.le_refl _⟩,⟨by repeat (first|(with_reducible first|exact G.1|apply below_alloc|apply pw_below_drewN|apply below_drew1)|exact G.1)⟩⟩
   case rest =>
    clear e1;try clear p2
    try clear c3
    try clear c4
    try clear c4b0
    try clear p2
    obtain ⟨kq,a8,rfl,HA,U,G⟩:=hcut;cases kq with
    | zero=>exact absurd HA.1 (by simp [bellpulllaw05_code.j1])
    | succ kj2 =>
     have H:=HA.1;clear HA;simp only [bellpulllaw05_code.j1] at H
     by_cases c5:a8=true
     ·
      subst c5;have V:(if 0 ≤ B then (if B < (F.length:Int) then (if (Int.tmod (rd F B) 10) < 2 then (bellpulllaw05_code.j2 kj2 F R D E B (Int.tmod (rd F B) 10) (decide (E > 1))) else (bellpulllaw05_code.j2 kj2 F R D E B (Int.tmod (rd F B) 10) false)) else (none)) else (none))=some r:=by rw [if_pos rfl] at H;exact H
      clear H;have H:=V;clear V
      by_cases c6:0 ≤ B
      ·
       rw [if_pos c6] at H;have c6b0:decide (0 ≤ B)=true:=decide_eq_true c6;clear c6
       by_cases c7:B < (F.length:Int)
       ·
        rw [if_pos c7] at H;have c7b0:decide (B < (F.length:Int))=true:=decide_eq_true c7;clear c7;have e2:=mk0 H;clear H;have a5:0 ≤ (B:Int):=of_decide_eq_true (by first|(with_reducible assumption)|assumption);have a6:B < (F.length:Int):=of_decide_eq_true (by first|(with_reducible assumption)|assumption);obtain ⟨e3,f1,T⟩:=Kd.at_int e7.1 B a5 a6;cases f1;replace T:=(G.1.cell (World.block_lt_of_cell? w _ T)).trans T;replace a5:=eq_true a5;replace a6:=eq_true a6;go_upto_region 6 with (fail)
        go_cut [28] (fun g0 wc=>∃ (kq:Nat) (a9:Bool),g0=.bool a9∧Aside0 (bellpulllaw05_code.j2 kq F R D E B (Int.tmod (rd F B) 10) a9=some r)∧Aside0 (kq ≤ kj2)∧Aside0 (Below w.heap.size w wc))
        case first =>
         have H:=e2.1;clear e2
         by_cases c9:(Int.tmod (rd F B) 10) < 2
         ·
          rw [if_pos c9] at H;have c9b0:decide ((Int.tmod (rd F B) 10) < 2)=true:=decide_eq_true c9;clear c9;(first|rw [c9b0]|(simp only [i64_w,i32_w];rw [c9b0])|skip);have H':=mk0 H;clear H;go_wp2;go_meet
          case rel=>exact ⟨_,(decide (E > 1)),(by first|rfl|(simp;done)|(simp [*];done)),H',⟨by have:=Q.1;have:=U.1;first|omega|exact Nat.le_refl _⟩,⟨by repeat (first|(with_reducible first|exact G.1|apply below_alloc|apply pw_below_drewN|apply below_drew1)|exact G.1)⟩⟩
         ·
          rw [if_neg c9] at H;have c9b0:decide ((Int.tmod (rd F B) 10) < 2)=false:=decide_eq_false c9;clear c9;(first|rw [c9b0]|(simp only [i64_w,i32_w];rw [c9b0])|skip);have H':=mk0 H;clear H;go_wp2;go_meet
          case rel=>exact ⟨_,(false),(by first|rfl|(simp;done)|(simp [*];done)),H',⟨by have:=Q.1;have:=U.1;first|omega|exact Nat.le_refl _⟩,⟨by repeat (first|(with_reducible first|exact G.1|apply below_alloc|apply pw_below_drewN|apply below_drew1)|exact G.1)⟩⟩
        case rest =>
         clear e2;try clear p2
         try clear c3
         try clear p3
         try clear q3
         try clear hx3
         try clear c4
         try clear c4b0
         try clear c5
         try clear c6
         try clear c6b0
         try clear p6
         try clear c7
         try clear c7b0
         try clear c9
         try clear c9b0
         try clear T
         try clear p2
         try clear a5
         try clear a6
         obtain ⟨kq,a9,rfl,HA,Y,G⟩:=hcut;cases kq with
         | zero=>exact absurd HA.1 (by simp [bellpulllaw05_code.j2])
         | succ kj7 =>
          have H:=HA.1;clear HA;simp only [bellpulllaw05_code.j2] at H
          by_cases b5:a9=true
          ·
           subst b5;have V:((some (([(⟨#[46]⟩:ByteArray),(⟨#[43]⟩:ByteArray)]:List ByteArray):List ByteArray)).bind fun I=>(if 0 ≤ (Int.tmod (rd F B) 10) then (if (Int.tmod (rd F B) 10) < (I.length:Int) then (if D.size + (rdOf ByteArray.empty I (Int.tmod (rd F B) 10)).size ≤ 9223372036854775807 then (bellpulllaw05_code.l0 kj7 F R (D ++ (rdOf ByteArray.empty I (Int.tmod (rd F B) 10))) (wrap64 (E - 1)) (wrap64 (B + 1))) else (none)) else (none)) else (none)))=some r:=by rw [if_pos rfl] at H;exact H
           clear H;have H:=V;clear V;obtain ⟨I,a2⟩:∃ y_:List ByteArray,y_=(([(⟨#[46]⟩:ByteArray),(⟨#[43]⟩:ByteArray)]:List ByteArray)):=⟨_,rfl⟩
           replace H:(if 0 ≤ (Int.tmod (rd F B) 10) then (if (Int.tmod (rd F B) 10) < (I.length:Int) then (if D.size + (rdOf ByteArray.empty I (Int.tmod (rd F B) 10)).size ≤ 9223372036854775807 then (bellpulllaw05_code.l0 kj7 F R (D ++ (rdOf ByteArray.empty I (Int.tmod (rd F B) 10))) (wrap64 (E - 1)) (wrap64 (B + 1))) else (none)) else (none)) else (none))=some r:=by first|(rw [a2];with_reducible exact H)|(have b0:=(Option.bind_some _ _).symm.trans H;rw [a2];with_reducible exact b0)|(have b0:=(Option.bind_some _ _).symm.trans H;with_reducible exact b0)|with_reducible exact H|(rw [a2];exact H)|exact H
           have d6:=mk0 a2;clear a2;obtain ⟨L,b7⟩:∃ j_:Int,(Int.tmod (rd F B) 10)=j_:=⟨_,rfl⟩
           replace H:(if 0 ≤ (L) then (if (L) < (I.length:Int) then (if D.size + (rdOf ByteArray.empty I (L)).size ≤ 9223372036854775807 then (bellpulllaw05_code.l0 kj7 F R (D ++ (rdOf ByteArray.empty I (L))) (wrap64 (E - 1)) (wrap64 (B + 1))) else (none)) else (none)) else (none))=some r:=by first|(rw [b7] at H;exact H)|(simp only [b7] at H ⊢;exact H)
           by_cases c12:0 ≤ (L)
           ·
            rw [if_pos c12] at H;have c12b0:decide (0 ≤ (L))=true:=decide_eq_true c12;clear c12
            by_cases c13:(L) < (I.length:Int)
            ·
             rw [if_pos c13] at H;have c13b0:decide ((L) < (I.length:Int))=true:=decide_eq_true c13;clear c13
             by_cases c14:D.size + (rdOf ByteArray.empty I (L)).size ≤ 9223372036854775807
             ·
              rw [if_pos c14] at H;have c14b0:=eq_true c14;have c14b1:decide (D.size + (rdOf ByteArray.empty I (L)).size ≤ 9223372036854775807)=true:=decide_eq_true c14;try have c14b2:(9223372036854775807 < D.size + (rdOf ByteArray.empty I (L)).size)=False:=eq_false (Nat.not_lt.2 c14)
              have H':=mk0 H;clear H;go_wp2_with (first|((with_reducible refine gate_dst (N:=36) rfl ?_);(try (refine gate_guard (by rfl) ?_;dsimp only));refine Kd.R_lit Kd.string _ 9 ?hg (N:=36) ?hd (xs:=([(⟨#[46]⟩:ByteArray),(⟨#[43]⟩:ByteArray)]:List ByteArray)) (inner:=[.string (⟨#[46]⟩:ByteArray),.string (⟨#[43]⟩:ByteArray)]) (ok:=fun _=>True) (okp:=fun _=>True) ?hr ?hp (fun _ hk=>hk) trivial (Below.refl _ _) (Nat.le_refl _) (by simp) ?_;(case hd=>rfl);(case hg=>rfl);(case hr=>first|(go_simp;done)|(go_simp;rfl));(case hp=>exact (Reps.one (show Kd.M Kd.string _ _ _ (⟨#[46]⟩:ByteArray) [.string (⟨#[46]⟩:ByteArray)] from rfl) (Reps.one (show Kd.M Kd.string _ _ _ (⟨#[43]⟩:ByteArray) [.string (⟨#[43]⟩:ByteArray)] from rfl) (Reps.none _ _))));intro g5 h2 b1 hb hg_ b8;clear hg_ b8;(first|rw [← d6.1] at b1|(simp only [Int.reduceToNat] at b1;rw [← d6.1] at b1));have d7:=mk0 (Kd.R_lower b1 (below_size G.1));replace G:=bst G hb;clear hb b1;obtain ⟨g6,g7,f2⟩:=Kd.R_slice d7.1;subst f2;have b2:0 ≤ ((L):Int):=of_decide_eq_true (by first|(with_reducible assumption)|assumption);have b3:(L) < (I.length:Int):=of_decide_eq_true (by first|(with_reducible assumption)|assumption);obtain ⟨g2,f3,b6⟩:=Kd.at_string (Kd.R_reads' d7.1).2.2 (L) b2 b3;cases f3;replace b2:=eq_true b2;replace b3:=eq_true b3));go_roundg kj7
              case measure=>have:=Q.1;have:=U.1;have:=Y.1;omega
              case rel=>exact ⟨(D ++ (rdOf ByteArray.empty I (L))),(wrap64 (E - 1)),(wrap64 (B + 1)),(by first|rfl|(simp;done)|(simp only [← b7] <;> (first|rfl|simp))|(simp [*];done)),(by first|rfl|(simp;done)|(simp [*];done)),(by first|rfl|(simp;done)|(simp [*];done)),H',⟨by have:=Q.1;have:=U.1;have:=Y.1;omega⟩,⟨by repeat (first|(with_reducible first|exact G.1|apply below_alloc|apply pw_below_drewN|apply below_drew1)|exact G.1)⟩⟩
             ·
              rw [if_neg c14] at H;exact absurd H (by simp)
            ·
             rw [if_neg c13] at H;exact absurd H (by simp)
           ·
            rw [if_neg c12] at H;exact absurd H (by simp)
          ·
           replace b5:=Bool.eq_false_iff.mpr b5;subst b5;have V:(if (Int.tmod (rd F B) 10)=2 then (bellpulllaw05_code.j3 kj7 F R D E B (decide (E > 0))) else (bellpulllaw05_code.j3 kj7 F R D E B false))=some r:=by rw [if_neg (show ¬ (false=true) by decide)] at H;exact H
           clear H;have H:=V;clear V;have d5:=mk0 H;clear H;go_upto_region 9 with (fail)
           go_cut [43] (fun g1 wc=>∃ (kq:Nat) (a3:Bool),g1=.bool a3∧Aside0 (bellpulllaw05_code.j3 kq F R D E B a3=some r)∧Aside0 (kq ≤ kj7)∧Aside0 (Below w.heap.size w wc))
           case first =>
            have H:=d5.1;clear d5
            by_cases c19:(Int.tmod (rd F B) 10)=2
            ·
             rw [if_pos c19] at H;have c19b0:((Int.tmod (rd F B) 10) == 2)=true:=beq_iff_eq.mpr c19;have c19b1:((Int.tmod (rd F B) 10) != 2)=false:=bne_eq_false_iff_eq.mpr c19;clear c19;(first|rw [c19b0]|(simp only [i64_w,i32_w];rw [c19b0])|skip);have H':=mk0 H;clear H;go_wp2;go_meet
             case rel=>exact ⟨_,(decide (E > 0)),(by first|rfl|(simp;done)|(simp [*];done)),H',⟨by have:=Q.1;have:=U.1;have:=Y.1;first|omega|exact Nat.le_refl _⟩,⟨by repeat (first|(with_reducible first|exact G.1|apply below_alloc|apply pw_below_drewN|apply below_drew1)|exact G.1)⟩⟩
            ·
             rw [if_neg c19] at H;have c19b0:((Int.tmod (rd F B) 10) == 2)=false:=beq_eq_false_iff_ne.mpr c19;have c19b1:((Int.tmod (rd F B) 10) != 2)=true:=bne_iff_ne.mpr c19;(first|rw [c19b0]|(simp only [i64_w,i32_w];rw [c19b0])|skip);have H':=mk0 H;clear H;go_wp2;go_meet
             case rel=>exact ⟨_,(false),(by first|rfl|(simp;done)|(simp [*];done)),H',⟨by have:=Q.1;have:=U.1;have:=Y.1;first|omega|exact Nat.le_refl _⟩,⟨by repeat (first|(with_reducible first|exact G.1|apply below_alloc|apply pw_below_drewN|apply below_drew1)|exact G.1)⟩⟩
           case rest =>
            clear d5;try clear c1
            try clear p2
            try clear c3
            try clear p3
            try clear q3
            try clear hx3
            try clear c4
            try clear c4b0
            try clear c5
            try clear c6
            try clear c6b0
            try clear p6
            try clear c7
            try clear c7b0
            try clear c9
            try clear c9b0
            try clear b5
            try clear c12
            try clear c12b0
            try clear c13
            try clear c13b0
            try clear c14
            try clear c14b0
            try clear c14b1
            try clear c14b2
            try clear c19
            try clear c19b0
            try clear c19b1
            try clear T
            try clear b6
            try clear p2
            try clear p3
            try clear a5
            try clear b2
            try clear p6
            try clear q3
            try clear a6
            try clear b3
            obtain ⟨kq,a3,rfl,HA,a7,G⟩:=hcut;cases kq with
            | zero=>exact absurd HA.1 (by simp [bellpulllaw05_code.j3])
            | succ kj17 =>
             have H:=HA.1;clear HA;simp only [bellpulllaw05_code.j3] at H
             by_cases d3:a3=true
             ·
              subst d3;have V:(if D.size + 1 ≤ 9223372036854775807 then (bellpulllaw05_code.l0 kj17 F R (D ++ (⟨#[42]⟩:ByteArray)) E (wrap64 (B + 1))) else (none))=some r:=by rw [if_pos rfl] at H;exact H
              clear H;have H:=V;clear V
              by_cases c21:D.size + 1 ≤ 9223372036854775807
              ·
               rw [if_pos c21] at H;have c21b0:=eq_true c21;have c21b1:decide (D.size + 1 ≤ 9223372036854775807)=true:=decide_eq_true c21;try have c21b2:(9223372036854775807 < D.size + 1)=False:=eq_false (Nat.not_lt.2 c21)
               have H':=mk0 H;clear H;go_wp2;go_roundg kj17
               case measure=>have:=Q.1;have:=U.1;have:=Y.1;have:=a7.1;omega
               case rel=>exact ⟨(D ++ (⟨#[42]⟩:ByteArray)),(E),(wrap64 (B + 1)),(by first|rfl|(simp;done)|(simp [*];done)),(by first|rfl|(simp;done)|(simp [*];done)),(by first|rfl|(simp;done)|(simp [*];done)),H',⟨by have:=Q.1;have:=U.1;have:=Y.1;have:=a7.1;omega⟩,⟨by repeat (first|(with_reducible first|exact G.1|apply below_alloc|apply pw_below_drewN|apply below_drew1)|exact G.1)⟩⟩
              ·
               rw [if_neg c21] at H;exact absurd H (by simp)
             ·
              replace d3:=Bool.eq_false_iff.mpr d3;subst d3;have V:(if (wrap64 ((wrap64 ((D.size:Int) + E)) + 2)) ≤ R then ((some (([(⟨#[97]⟩:ByteArray),(⟨#[98]⟩:ByteArray),(⟨#[99]⟩:ByteArray),(⟨#[101]⟩:ByteArray)]:List ByteArray):List ByteArray)).bind fun J=>(if 0 ≤ B then (if B < (F.length:Int) then (if 0 ≤ (((Int.tdiv (rd F B) 10) % 256) % 4) then (if (((Int.tdiv (rd F B) 10) % 256) % 4) < (J.length:Int) then (if D.size + (rdOf ByteArray.empty J (((Int.tdiv (rd F B) 10) % 256) % 4)).size ≤ 9223372036854775807 then (bellpulllaw05_code.l0 kj17 F R (D ++ (rdOf ByteArray.empty J (((Int.tdiv (rd F B) 10) % 256) % 4))) (wrap64 (E + 1)) (wrap64 (B + 1))) else (none)) else (none)) else (none)) else (none)) else (none))) else (bellpulllaw05_code.l0 kj17 F R D E (wrap64 (B + 1))))=some r:=by rw [if_neg (show ¬ (false=true) by decide)] at H;exact H
              clear H;have H:=V;clear V
              by_cases c22:(wrap64 ((wrap64 ((D.size:Int) + E)) + 2)) ≤ R
              ·
               rw [if_pos c22] at H;have c22b0:decide ((wrap64 ((wrap64 ((D.size:Int) + E)) + 2)) ≤ R)=true:=decide_eq_true c22;clear c22;obtain ⟨J,a4⟩:∃ y_:List ByteArray,y_=(([(⟨#[97]⟩:ByteArray),(⟨#[98]⟩:ByteArray),(⟨#[99]⟩:ByteArray),(⟨#[101]⟩:ByteArray)]:List ByteArray)):=⟨_,rfl⟩
               replace H:(if 0 ≤ B then (if B < (F.length:Int) then (if 0 ≤ (((Int.tdiv (rd F B) 10) % 256) % 4) then (if (((Int.tdiv (rd F B) 10) % 256) % 4) < (J.length:Int) then (if D.size + (rdOf ByteArray.empty J (((Int.tdiv (rd F B) 10) % 256) % 4)).size ≤ 9223372036854775807 then (bellpulllaw05_code.l0 kj17 F R (D ++ (rdOf ByteArray.empty J (((Int.tdiv (rd F B) 10) % 256) % 4))) (wrap64 (E + 1)) (wrap64 (B + 1))) else (none)) else (none)) else (none)) else (none)) else (none))=some r:=by first|(rw [a4];with_reducible exact H)|(have b0:=(Option.bind_some _ _).symm.trans H;rw [a4];with_reducible exact b0)|(have b0:=(Option.bind_some _ _).symm.trans H;with_reducible exact b0)|with_reducible exact H|(rw [a4];exact H)|exact H
               have d8:=mk0 a4;clear a4
               by_cases c23:0 ≤ B
               ·
                rw [if_pos c23] at H;have c23b0:decide (0 ≤ B)=true:=decide_eq_true c23;clear c23
                by_cases c24:B < (F.length:Int)
                ·
                 rw [if_pos c24] at H;have c24b0:decide (B < (F.length:Int))=true:=decide_eq_true c24;clear c24;obtain ⟨O,b9⟩:∃ j_:Int,(((Int.tdiv (rd F B) 10) % 256) % 4)=j_:=⟨_,rfl⟩
                 replace H:(if 0 ≤ (O) then (if (O) < (J.length:Int) then (if D.size + (rdOf ByteArray.empty J (O)).size ≤ 9223372036854775807 then (bellpulllaw05_code.l0 kj17 F R (D ++ (rdOf ByteArray.empty J (O))) (wrap64 (E + 1)) (wrap64 (B + 1))) else (none)) else (none)) else (none))=some r:=by first|(rw [b9] at H;exact H)|(simp only [b9] at H ⊢;exact H)
                 by_cases c26:0 ≤ (O)
                 ·
                  rw [if_pos c26] at H;have c26b0:decide (0 ≤ (O))=true:=decide_eq_true c26;clear c26
                  by_cases c27:(O) < (J.length:Int)
                  ·
                   rw [if_pos c27] at H;have c27b0:decide ((O) < (J.length:Int))=true:=decide_eq_true c27;clear c27
                   by_cases c28:D.size + (rdOf ByteArray.empty J (O)).size ≤ 9223372036854775807
                   ·
                    rw [if_pos c28] at H;have c28b0:=eq_true c28;have c28b1:decide (D.size + (rdOf ByteArray.empty J (O)).size ≤ 9223372036854775807)=true:=decide_eq_true c28;try have c28b2:(9223372036854775807 < D.size + (rdOf ByteArray.empty J (O)).size)=False:=eq_false (Nat.not_lt.2 c28)
                    have H':=mk0 H;clear H;go_wp2_with (first|((with_reducible refine gate_dst (N:=61) rfl ?_);(try (refine gate_guard (by rfl) ?_;dsimp only));refine Kd.R_lit Kd.string _ 9 ?hg (N:=61) ?hd (xs:=([(⟨#[97]⟩:ByteArray),(⟨#[98]⟩:ByteArray),(⟨#[99]⟩:ByteArray),(⟨#[101]⟩:ByteArray)]:List ByteArray)) (inner:=[.string (⟨#[97]⟩:ByteArray),.string (⟨#[98]⟩:ByteArray),.string (⟨#[99]⟩:ByteArray),.string (⟨#[101]⟩:ByteArray)]) (ok:=fun _=>True) (okp:=fun _=>True) ?hr ?hp (fun _ hk=>hk) trivial (Below.refl _ _) (Nat.le_refl _) (by simp) ?_;(case hd=>rfl);(case hg=>rfl);(case hr=>first|(go_simp;done)|(go_simp;rfl));(case hp=>exact (Reps.one (show Kd.M Kd.string _ _ _ (⟨#[97]⟩:ByteArray) [.string (⟨#[97]⟩:ByteArray)] from rfl) (Reps.one (show Kd.M Kd.string _ _ _ (⟨#[98]⟩:ByteArray) [.string (⟨#[98]⟩:ByteArray)] from rfl) (Reps.one (show Kd.M Kd.string _ _ _ (⟨#[99]⟩:ByteArray) [.string (⟨#[99]⟩:ByteArray)] from rfl) (Reps.one (show Kd.M Kd.string _ _ _ (⟨#[101]⟩:ByteArray) [.string (⟨#[101]⟩:ByteArray)] from rfl) (Reps.none _ _))))));intro g8 h3 b4 hb hg_ b8;clear hg_ b8;(first|rw [← d8.1] at b4|(simp only [Int.reduceToNat] at b4;rw [← d8.1] at b4));have d9:=mk0 (Kd.R_lower b4 (below_size G.1));replace G:=bst G hb;clear hb b4;have c8:0 ≤ (B:Int):=of_decide_eq_true (by first|(with_reducible assumption)|assumption);have d0:B < (F.length:Int):=of_decide_eq_true (by first|(with_reducible assumption)|assumption);obtain ⟨e4,f4,X⟩:=Kd.at_int e7.1 B c8 d0;obtain rfl:e3=e4:=(by injection f4);replace X:=(G.1.cell (World.block_lt_of_cell? w _ X)).trans X;replace c8:=eq_true c8;replace d0:=eq_true d0;obtain ⟨g9,h0,f5⟩:=Kd.R_slice d9.1;subst f5;have d1:0 ≤ ((O):Int):=of_decide_eq_true (by first|(with_reducible assumption)|assumption);have d2:(O) < (J.length:Int):=of_decide_eq_true (by first|(with_reducible assumption)|assumption);obtain ⟨g3,f6,e0⟩:=Kd.at_string (Kd.R_reads' d9.1).2.2 (O) d1 d2;cases f6;replace d1:=eq_true d1;replace d2:=eq_true d2));go_roundg kj17
                    case measure=>have:=Q.1;have:=U.1;have:=Y.1;have:=a7.1;omega
                    case rel=>exact ⟨(D ++ (rdOf ByteArray.empty J (O))),(wrap64 (E + 1)),(wrap64 (B + 1)),(by first|rfl|(simp;done)|(simp only [← b9] <;> (first|rfl|simp))|(simp [*];done)),(by first|rfl|(simp;done)|(simp [*];done)),(by first|rfl|(simp;done)|(simp [*];done)),H',⟨by have:=Q.1;have:=U.1;have:=Y.1;have:=a7.1;omega⟩,⟨by repeat (first|(with_reducible first|exact G.1|apply below_alloc|apply pw_below_drewN|apply below_drew1)|exact G.1)⟩⟩
                   ·
                    rw [if_neg c28] at H;exact absurd H (by simp)
                  ·
                   rw [if_neg c27] at H;exact absurd H (by simp)
                 ·
                  rw [if_neg c26] at H;exact absurd H (by simp)
                ·
                 rw [if_neg c24] at H;exact absurd H (by simp)
               ·
                rw [if_neg c23] at H;exact absurd H (by simp)
              ·
               rw [if_neg c22] at H;have c22b0:decide ((wrap64 ((wrap64 ((D.size:Int) + E)) + 2)) ≤ R)=false:=decide_eq_false c22;clear c22;have H':=mk0 H;clear H;go_wp2;go_roundg kj17
               case measure=>have:=Q.1;have:=U.1;have:=Y.1;have:=a7.1;omega
               case rel=>exact ⟨(D),(E),(wrap64 (B + 1)),(by first|rfl|(simp;done)|(simp [*];done)),(by first|rfl|(simp;done)|(simp [*];done)),(by first|rfl|(simp;done)|(simp [*];done)),H',⟨by have:=Q.1;have:=U.1;have:=Y.1;have:=a7.1;omega⟩,⟨by repeat (first|(with_reducible first|exact G.1|apply below_alloc|apply pw_below_drewN|apply below_drew1)|exact G.1)⟩⟩
       ·
        rw [if_neg c7] at H;exact absurd H (by simp)
      ·
       rw [if_neg c6] at H;exact absurd H (by simp)
     ·
      replace c5:=Bool.eq_false_iff.mpr c5;subst c5;have V:(if E=0 then (some (⟨#[101]⟩:ByteArray)) else (bellpulllaw05_code.l1 kj2 D E))=some r:=by rw [if_neg (show ¬ (false=true) by decide)] at H;exact H
      clear H;have H:=V;clear V
      by_cases c32:E=0
      ·
       rw [if_pos c32] at H;have c32b0:(E == 0)=true:=beq_iff_eq.mpr c32;have c32b1:(E != 0)=false:=bne_eq_false_iff_eq.mpr c32;clear c32;obtain rfl:=Option.some.inj H;go_wp2;go_ret;exact ⟨by first|rfl|(simp [errW_none,errW_some] <;> rfl)|(simp [*,errW_none,errW_some] <;> rfl),by repeat (first|(with_reducible first|exact G.1|apply below_alloc|apply pw_below_drewN|apply below_drew1)|exact G.1)⟩
      ·
       rw [if_neg c32] at H;have c32b0:(E == 0)=false:=beq_eq_false_iff_ne.mpr c32;have c32b1:(E != 0)=true:=bne_iff_ne.mpr c32;have H':=mk0 H;clear H;go_wp2
       go_loopg [5,6] kj2 (fun kq v5 v6 w'=>∃ (Z:ByteArray) (a0:Int),v5=.string Z∧v6=.int .i64 a0∧Aside0 (bellpulllaw05_code.l1 kq Z a0=some r)∧Aside0 (kq ≤ kj2)∧Aside0 (Below w.heap.size w w'))
       case atStart=>exact ⟨(D),(E),(by first|rfl|(simp;done)|(simp [*];done)),(by first|rfl|(simp;done)|(simp [*];done)),H',⟨Nat.le_refl _⟩,⟨by repeat (first|(with_reducible first|exact G.1|apply below_alloc|apply pw_below_drewN|apply below_drew1)|exact G.1)⟩⟩
       case round =>
        clear H';try clear c1
        try clear c2
        try clear p2
        try clear c3
        try clear p3
        try clear q3
        try clear hx3
        try clear c4
        try clear c4b0
        try clear c5
        try clear c6
        try clear c6b0
        try clear p6
        try clear c7
        try clear c7b0
        try clear c9
        try clear c9b0
        try clear b5
        try clear c12
        try clear c12b0
        try clear c13
        try clear c13b0
        try clear c14
        try clear c14b0
        try clear c14b1
        try clear c14b2
        try clear c19
        try clear c19b0
        try clear c19b1
        try clear d3
        try clear c21
        try clear c21b0
        try clear c21b1
        try clear c21b2
        try clear c22
        try clear c22b0
        try clear c23
        try clear c23b0
        try clear c24
        try clear c24b0
        try clear c26
        try clear c26b0
        try clear c27
        try clear c27b0
        try clear c28
        try clear c28b0
        try clear c28b1
        try clear c28b2
        try clear p31
        try clear q31
        try clear hx31
        try clear c32
        try clear c32b0
        try clear c32b1
        try clear p32
        try clear q32
        try clear hx32
        try clear T
        try clear b6
        try clear X
        try clear e0
        try clear p2
        try clear p3
        try clear a5
        try clear b2
        try clear c8
        try clear d1
        try clear p6
        try clear q3
        try clear a6
        try clear b3
        try clear d0
        try clear d2
        obtain ⟨Z,a0,rfl,rfl,HA,e8,G⟩:=hrel;cases gk with
        | zero=>exact absurd HA.1 (by simp [bellpulllaw05_code.l1])
        | succ k3 =>
         have H:=HA.1;clear HA;simp only [bellpulllaw05_code.l1] at H
         by_cases c33:a0 > 1
         ·
          rw [if_pos c33] at H;have c33b0:decide (1 < a0)=true:=decide_eq_true c33;clear c33
          by_cases c34:Z.size + 1 ≤ 9223372036854775807
          ·
           rw [if_pos c34] at H;have c34b0:=eq_true c34;have c34b1:decide (Z.size + 1 ≤ 9223372036854775807)=true:=decide_eq_true c34;try have c34b2:(9223372036854775807 < Z.size + 1)=False:=eq_false (Nat.not_lt.2 c34)
           have H':=mk0 H;clear H;go_wp2;go_roundg k3
           case measure=>have:=Q.1;have:=U.1;have:=e8.1;omega
           case rel=>exact ⟨(Z ++ (⟨#[46]⟩:ByteArray)),(wrap64 (a0 - 1)),(by first|rfl|(simp;done)|(simp [*];done)),(by first|rfl|(simp;done)|(simp [*];done)),H',⟨by have:=Q.1;have:=U.1;have:=e8.1;omega⟩,⟨by repeat (first|(with_reducible first|exact G.1|apply below_alloc|apply pw_below_drewN|apply below_drew1)|exact G.1)⟩⟩
          ·
           rw [if_neg c34] at H;exact absurd H (by simp)
         ·
          rw [if_neg c33] at H;have c33b0:decide (1 < a0)=false:=decide_eq_false c33;clear c33;obtain rfl:=Option.some.inj H;go_wp2;go_ret;exact ⟨by first|rfl|(simp [errW_none,errW_some] <;> rfl)|(simp [*,errW_none,errW_some] <;> rfl),by repeat (first|(with_reducible first|exact G.1|apply below_alloc|apply pw_below_drewN|apply below_drew1)|exact G.1)⟩
end Go.Proofs.Ytkonljiembcdlaa.PC
namespace Go.Proofs.Ytkonljiembcdlaa.PC
open Go.Proofs.MyWords Go.RowKit Go.Proofs.YtkonljiembcdlaaW.PrintWords Go.Proofs.YtkonljiembcdlaaW.PrintLast Go.Proofs.YtkonljiembcdlaaW.PrintMore
attribute [local go_sem] max2_int min2_int max_two min_two max_three min_three max_four min_four   -- for this text's walks alone
set_option linter.unusedVariables false
set_option linter.unusedSimpArgs false
attribute [local go_sem] eqGuard_slices eqlnil23 neqnil23 eqlnil58 neqnil58
def bellpullref05_Total.l0:Nat → List Int → Int → Int → Option (Int)
  | 0,_,_,_=>none
  | k + 1,x0,x3,x4=>if x4 < (x0.length:Int) then (if 0 ≤ x4 then (bellpullref05_Total.l0 k x0 (wrap64 (x3 + (rd x0 x4))) (wrap64 (x4 + 1))) else (none)) else (some x3)
def bellpullref05_Total.f (k:Nat) (l0:List Int):Option (Int):=bellpullref05_Total.l0 k l0 0 0
theorem bellpullref05_Total.mono_l:∀ k,(∀ y0 y1 y2,LeO (bellpullref05_Total.l0 k y0 y1 y2) (bellpullref05_Total.l0 (k + 1) y0 y1 y2))
  | 0=>fun _ _ _ r h=>by simp [bellpullref05_Total.l0] at h
  | k + 1=>by
    have ih0:=bellpullref05_Total.mono_l k
    · intro y0 y1 y2
      unfold bellpullref05_Total.l0
      with_reducible repeat' first|exact ih0 _ _ _|exact LeO.refl _|exact LeO.none _|refine LeO.ite ?_ ?_|refine LeO.bind ?_ (fun _=>?_)
theorem bellpullref05_Total.mono:∀ a0 k,LeO (bellpullref05_Total.f k a0) (bellpullref05_Total.f (k + 1) a0):=by
  intro a0 k
  have ih0:=bellpullref05_Total.mono_l k
  unfold bellpullref05_Total.f
  with_reducible repeat' first|exact ih0 _ _ _|exact LeO.refl _|exact LeO.none _|refine LeO.ite ?_ ?_|refine LeO.bind ?_ (fun _=>?_)
set_option maxHeartbeats 8000000 in
set_option maxRecDepth 100000 in
theorem bellpullref05_Total.calls (k:Nat) (O:Option Addr) (Q:Nat) (D:List Int) (r:Int) (w:World) (I:Kd.C (Kd.int .i64) w O D.length D) (J:D.length ≤ Q) (h:bellpullref05_Total.f k D=some r) :
    Calls Try.prog 45 #[.slice O D.length Q] w fun e w'=>e=.returned (.int .i64 r)∧Drawn0 w w':=by
 have R:=mk0 I;have X:=mk0 J;clear I J;have H:(bellpullref05_Total.l0 k D 0 0)=some r:=h;clear h;have H':=mk0 H;clear H;go_enter Try.func45,Try.ntmps45;go_wp2
 go_loopg [3,4] k (fun kq U V w'=>∃ (E:Int) (B:Int),U=.int .i64 E∧V=.int .i64 B∧Aside0 (bellpullref05_Total.l0 kq D E B=some r)∧Aside0 (kq ≤ k)∧Drawn0 w w')
 case atStart=>exact ⟨(0),(0),(by first|rfl|(simp;done)|(simp [*];done)),(by first|rfl|(simp;done)|(simp [*];done)),H',⟨Nat.le_refl _⟩,by repeat (first|exact Drawn0.refl _|apply Drawn0.step)⟩
 case round =>
  clear H';obtain ⟨E,B,rfl,rfl,HA,L,⟨Y,rfl⟩⟩:=hrel;cases gk with
  | zero=>exact absurd HA.1 (by simp [bellpullref05_Total.l0])
  | succ k1 =>
   have H:=HA.1;clear HA;simp only [bellpullref05_Total.l0] at H
   by_cases c2:B < (D.length:Int)
   ·
    rw [if_pos c2] at H;have c2b0:decide (B < (D.length:Int))=true:=decide_eq_true c2;clear c2
    by_cases c3:0 ≤ B
    ·
     rw [if_pos c3] at H;have c3b0:decide (0 ≤ B)=true:=decide_eq_true c3;clear c3;have H':=mk0 H;clear H;have F:0 ≤ (B:Int):=of_decide_eq_true (by first|(with_reducible assumption)|assumption);have G:B < (D.length:Int):=of_decide_eq_true (by first|(with_reducible assumption)|assumption);obtain ⟨T,M,N⟩:=Kd.at_int R.1 B F G;cases M;replace F:=eq_true F;replace G:=eq_true G;go_wp2;go_roundg k1
     case measure=>have:=L.1;omega
     case rel=>exact ⟨(wrap64 (E + (rd D B))),(wrap64 (B + 1)),(by first|rfl|(simp;done)|(simp [*];done)),(by first|rfl|(simp;done)|(simp [*];done)),H',⟨by have:=L.1;omega⟩,by repeat (first|exact Drawn0.refl _|apply Drawn0.step)⟩
    ·
     rw [if_neg c3] at H;exact absurd H (by simp)
   ·
    rw [if_neg c2] at H;have c2b0:decide (B < (D.length:Int))=false:=decide_eq_false c2;clear c2;obtain rfl:=Option.some.inj H;go_wp2;go_ret;exact ⟨by first|rfl|(simp;done)|(simp [*];done),by repeat (first|exact Drawn0.refl _|apply Drawn0.step)⟩
end Go.Proofs.Ytkonljiembcdlaa.PC
namespace Go.Proofs.Ytkonljiembcdlaa.PC
open Go.Proofs.MyWords Go.RowKit Go.Proofs.YtkonljiembcdlaaW.PrintWords Go.Proofs.YtkonljiembcdlaaW.PrintLast Go.Proofs.YtkonljiembcdlaaW.PrintMore
attribute [local go_sem] max2_int min2_int max_two min_two max_three min_three max_four min_four   -- for this text's walks alone
set_option linter.unusedVariables false
set_option linter.unusedSimpArgs false
attribute [local go_sem] eqGuard_slices eqlnil23 neqnil23 eqlnil58 neqnil58
mutual
def bellpulllaw05_heavy.l0:Nat → List (S60) → Int → Option (Bool)
  | 0,_,_=>none
  | k + 1,x0,x3=>if x3 < (x0.length:Int) then (bellpulllaw05_heavy.l1 k x0 x3 0 0) else (some false)
def bellpulllaw05_heavy.l1:Nat → List (S60) → Int → Int → Int → Option (Bool)
  | 0,_,_,_,_=>none
  | k + 1,x0,x3,x4,x5=>if 0 ≤ x3 then (if x3 < (x0.length:Int) then (if x5 < (((rd_T60 x0 x3).f1).length:Int) then (if 0 ≤ x5 then ((bellpullref05_Total.f k (rd_L1 ((rd_T60 x0 x3).f1) x5)).bind fun t410=>(if t410 > 0 then (if t410 < 3 then (bellpulllaw05_heavy.l1 k x0 x3 (wrap64 (x4 + 1)) (wrap64 (x5 + 1))) else (bellpulllaw05_heavy.l1 k x0 x3 x4 (wrap64 (x5 + 1)))) else (bellpulllaw05_heavy.l1 k x0 x3 x4 (wrap64 (x5 + 1))))) else (none)) else (if x4 > 2 then (some true) else (bellpulllaw05_heavy.l0 k x0 (wrap64 (x3 + 1))))) else (none)) else (none)
end
def bellpulllaw05_heavy.f (k:Nat) (l0:List (S60)):Option (Bool):=bellpulllaw05_heavy.l0 k l0 0
theorem bellpulllaw05_heavy.mono_l:∀ k,(∀ y0 y1,LeO (bellpulllaw05_heavy.l0 k y0 y1) (bellpulllaw05_heavy.l0 (k + 1) y0 y1))∧(∀ y0 y1 y2 y3,LeO (bellpulllaw05_heavy.l1 k y0 y1 y2 y3) (bellpulllaw05_heavy.l1 (k + 1) y0 y1 y2 y3))
  | 0=>⟨fun _ _ r h=>by simp [bellpulllaw05_heavy.l0] at h,fun _ _ _ _ r h=>by simp [bellpulllaw05_heavy.l1] at h⟩
  | k + 1=>by
    obtain ⟨ih0,ih1⟩:=bellpulllaw05_heavy.mono_l k
    refine ⟨?_,?_⟩
    · intro y0 y1
      unfold bellpulllaw05_heavy.l0
      with_reducible repeat' first|exact ih0 _ _|exact ih1 _ _ _ _|exact bellpullref05_Total.mono _ _|exact LeO.refl _|exact LeO.none _|refine LeO.ite ?_ ?_|refine LeO.bind ?_ (fun _=>?_)
    · intro y0 y1 y2 y3
      unfold bellpulllaw05_heavy.l1
      with_reducible repeat' first|exact ih0 _ _|exact ih1 _ _ _ _|exact bellpullref05_Total.mono _ _|exact LeO.refl _|exact LeO.none _|refine LeO.ite ?_ ?_|refine LeO.bind ?_ (fun _=>?_)
theorem bellpulllaw05_heavy.mono:∀ a0 k,LeO (bellpulllaw05_heavy.f k a0) (bellpulllaw05_heavy.f (k + 1) a0):=by
  intro a0 k
  obtain ⟨ih0,ih1⟩:=bellpulllaw05_heavy.mono_l k
  unfold bellpulllaw05_heavy.f
  with_reducible repeat' first|exact ih0 _ _|exact ih1 _ _ _ _|exact bellpullref05_Total.mono _ _|exact LeO.refl _|exact LeO.none _|refine LeO.ite ?_ ?_|refine LeO.bind ?_ (fun _=>?_)
set_option maxHeartbeats 8000000 in
set_option maxRecDepth 100000 in
theorem bellpulllaw05_heavy.calls (k:Nat) (A0:Option Addr) (c0:Nat) (M:List (S60)) (r:Bool) (w:World) (e4:Kd.C k60 w A0 M.length M) (e5:M.length ≤ c0) (h:bellpulllaw05_heavy.f k M=some r) :
    Calls Try.prog 21 #[.slice A0 M.length c0] w fun e w'=>e=.returned (.bool r)∧Drawn0 w w':=by
 have d0:=mk0 e4;have f4:=mk0 e5;clear e4 e5;have H:(bellpulllaw05_heavy.l0 k M 0)=some r:=h;clear h;have H':=mk0 H;clear H;go_enter Try.func21,Try.ntmps21;go_wp2
 go_loopg [3] k (fun kq v3 w'=>∃ (B:Int),v3=.int .i64 B∧Aside0 (bellpulllaw05_heavy.l0 kq M B=some r)∧Aside0 (kq ≤ k)∧Drawn0 w w')
 case atStart=>exact ⟨(0),(by first|rfl|(simp;done)|(simp [*];done)),H',⟨Nat.le_refl _⟩,by repeat (first|exact Drawn0.refl _|apply Drawn0.step)⟩
 case round =>
  clear H';obtain ⟨B,rfl,HA,d1,⟨m1,rfl⟩⟩:=hrel;cases gk with
  | zero=>exact absurd HA.1 (by simp [bellpulllaw05_heavy.l0])
  | succ k1 =>
   have H:=HA.1;clear HA;simp only [bellpulllaw05_heavy.l0] at H
   by_cases c2:B < (M.length:Int)
   ·
    rw [if_pos c2] at H;have c2b0:decide (B < (M.length:Int))=true:=decide_eq_true c2;clear c2;have H':=mk0 H;clear H;go_wp2
    go_loopg [4,5] k1 (fun kq v4 v5 w'=>∃ (a7:Int) (D:Int),v4=.int .i64 a7∧v5=.int .i64 D∧Aside0 (bellpulllaw05_heavy.l1 kq M B a7 D=some r)∧Aside0 (kq ≤ k1)∧Drawn0 w w')
    case atStart=>exact ⟨(0),(0),(by first|rfl|(simp;done)|(simp [*];done)),(by first|rfl|(simp;done)|(simp [*];done)),H',⟨Nat.le_refl _⟩,by repeat (first|exact Drawn0.refl _|apply Drawn0.step)⟩
    case round =>
     clear H';try clear c2
     try clear c2b0
     try clear p2
     obtain ⟨a7,D,rfl,rfl,HA,d2,⟨m2,rfl⟩⟩:=hrel;cases gk with
     | zero=>exact absurd HA.1 (by simp [bellpulllaw05_heavy.l1])
     | succ k2 =>
      have H:=HA.1;clear HA;simp only [bellpulllaw05_heavy.l1] at H
      by_cases c3:0 ≤ B
      ·
       rw [if_pos c3] at H;have c3b0:decide (0 ≤ B)=true:=decide_eq_true c3;clear c3
       by_cases c4:B < (M.length:Int)
       ·
        rw [if_pos c4] at H;have c4b0:decide (B < (M.length:Int))=true:=decide_eq_true c4;clear c4
        by_cases c5:D < (((rd_T60 M B).f1).length:Int)
        ·
         rw [if_pos c5] at H;have c5b0:decide (D < (((rd_T60 M B).f1).length:Int))=true:=decide_eq_true c5;clear c5
         by_cases c6:0 ≤ D
         ·
          rw [if_pos c6] at H;have c6b0:decide (0 ≤ D)=true:=decide_eq_true c6;clear c6;replace H:=Option.bind_eq_some_iff.mp H;obtain ⟨a8,e6,H⟩:=H;(try dsimp only at H);have A7:=mk0 e6;clear e6
          by_cases c8:a8 > 0
          ·
           rw [if_pos c8] at H;have c8b0:decide (0 < a8)=true:=decide_eq_true c8;clear c8
           by_cases c9:a8 < 3
           ·
            rw [if_pos c9] at H;have c9b0:decide (a8 < 3)=true:=decide_eq_true c9;clear c9;have H':=mk0 H;clear H;have J:0 ≤ (B:Int):=of_decide_eq_true (by first|(with_reducible assumption)|assumption);have L:B < (M.length:Int):=of_decide_eq_true (by first|(with_reducible assumption)|assumption);obtain ⟨a9,b7,b8,b9,c1,b0,V,X,E,F,G,I⟩:=at_T60 d0.1 B J L;cases b0;have b3:=mk0 F;have b4:=mk0 E;clear F E;have b5:=mk0 I;have b6:=mk0 G;clear I G;replace J:=eq_true J;replace L:=eq_true L;have Y:0 ≤ (B:Int):=of_decide_eq_true (by first|(with_reducible assumption)|assumption);have Z:B < (M.length:Int):=of_decide_eq_true (by first|(with_reducible assumption)|assumption);obtain ⟨c7,d9,e0,e1,e2,d3,a2,a3,N,O,Q,R⟩:=at_T60 d0.1 B Y Z;obtain rfl:a9=c7:=(by injection d3)
            have d5:=mk0 O;have d6:=mk0 N;clear O N;have a4:=mk0 R;have d7:=mk0 Q;clear R Q;replace Y:=eq_true Y;replace Z:=eq_true Z;have ea_:=Option.some.inj (V.symm.trans a2);injection ea_ with ea_ en_ ec_;subst ea_;subst ec_;clear en_;have ea_:=Option.some.inj (X.symm.trans a3);injection ea_ with ea_ en_ ec_;subst ea_;subst ec_;clear en_;have a0:0 ≤ (D:Int):=of_decide_eq_true (by first|(with_reducible assumption)|assumption);have a1:D < (((rd_T60 M B).f1).length:Int):=of_decide_eq_true (by first|(with_reducible assumption)|assumption);obtain ⟨e3,b1,b2,d4,d8,T,U⟩:=at_L1 a4.1 D a0 a1;cases d4;have a5:=mk0 U;have a6:=mk0 T;clear U T;replace a0:=eq_true a0;replace a1:=eq_true a1;go_wp2_with (first|((with_reducible refine gate_callee (f:=45) rfl ?_);refine goesL_ (some 31) rfl rfl Try.func45 (by kernel_rfl) rfl #[.slice b1 (rd_L1 ((rd_T60 M B).f1) D).length b2] rfl (by (try simp only [m0_,m1_,m2_]);first|done|rfl|(simp only [l0_,l1_];rfl)) ?_;(with_reducible refine (bellpullref05_Total.calls k2 _ _ (rd_L1 ((rd_T60 M B).f1) D) a8 _ ?side1 ?side2 A7.1).mono ?_);(case side1=>repeat (first|exact a5.1|(with_reducible refine Kd.C_alloc ?_ _)|(with_reducible refine Kd.C_drewN ?_ _)|(with_reducible refine Kd.C_drew ?_)));(case side2=>exact a6.1);rintro e w' ⟨rfl,⟨nd,rfl⟩⟩;refine ⟨_,rfl,?_⟩));go_roundg k2
            case measure=>have:=d1.1;have:=d2.1;omega
            case rel=>exact ⟨(wrap64 (a7 + 1)),(wrap64 (D + 1)),(by first|rfl|(simp;done)|(simp [*];done)),(by first|rfl|(simp;done)|(simp [*];done)),H',⟨by have:=d1.1;have:=d2.1;omega⟩,by repeat (first|exact Drawn0.refl _|apply Drawn0.step)⟩
           ·
            rw [if_neg c9] at H;have c9b0:decide (a8 < 3)=false:=decide_eq_false c9;clear c9;have H':=mk0 H;clear H;have J:0 ≤ (B:Int):=of_decide_eq_true (by first|(with_reducible assumption)|assumption);have L:B < (M.length:Int):=of_decide_eq_true (by first|(with_reducible assumption)|assumption);obtain ⟨a9,b7,b8,b9,c1,b0,V,X,E,F,G,I⟩:=at_T60 d0.1 B J L;cases b0;have b3:=mk0 F;have b4:=mk0 E;clear F E;have b5:=mk0 I;have b6:=mk0 G;clear I G;replace J:=eq_true J;replace L:=eq_true L;have Y:0 ≤ (B:Int):=of_decide_eq_true (by first|(with_reducible assumption)|assumption);have Z:B < (M.length:Int):=of_decide_eq_true (by first|(with_reducible assumption)|assumption);obtain ⟨c7,d9,e0,e1,e2,d3,a2,a3,N,O,Q,R⟩:=at_T60 d0.1 B Y Z;obtain rfl:a9=c7:=(by injection d3)
            have d5:=mk0 O;have d6:=mk0 N;clear O N;have a4:=mk0 R;have d7:=mk0 Q;clear R Q;replace Y:=eq_true Y;replace Z:=eq_true Z;have ea_:=Option.some.inj (V.symm.trans a2);injection ea_ with ea_ en_ ec_;subst ea_;subst ec_;clear en_;have ea_:=Option.some.inj (X.symm.trans a3);injection ea_ with ea_ en_ ec_;subst ea_;subst ec_;clear en_;have a0:0 ≤ (D:Int):=of_decide_eq_true (by first|(with_reducible assumption)|assumption);have a1:D < (((rd_T60 M B).f1).length:Int):=of_decide_eq_true (by first|(with_reducible assumption)|assumption);obtain ⟨e3,b1,b2,d4,d8,T,U⟩:=at_L1 a4.1 D a0 a1;cases d4;have a5:=mk0 U;have a6:=mk0 T;clear U T;replace a0:=eq_true a0;replace a1:=eq_true a1;go_wp2_with (first|((with_reducible refine gate_callee (f:=45) rfl ?_);refine goesL_ (some 31) rfl rfl Try.func45 (by kernel_rfl) rfl #[.slice b1 (rd_L1 ((rd_T60 M B).f1) D).length b2] rfl (by (try simp only [m0_,m1_,m2_]);first|done|rfl|(simp only [l0_,l1_];rfl)) ?_;(with_reducible refine (bellpullref05_Total.calls k2 _ _ (rd_L1 ((rd_T60 M B).f1) D) a8 _ ?side1 ?side2 A7.1).mono ?_);(case side1=>repeat (first|exact a5.1|(with_reducible refine Kd.C_alloc ?_ _)|(with_reducible refine Kd.C_drewN ?_ _)|(with_reducible refine Kd.C_drew ?_)));(case side2=>exact a6.1);rintro e w' ⟨rfl,⟨nd,rfl⟩⟩;refine ⟨_,rfl,?_⟩));go_roundg k2
            case measure=>have:=d1.1;have:=d2.1;omega
            case rel=>exact ⟨(a7),(wrap64 (D + 1)),(by first|rfl|(simp;done)|(simp [*];done)),(by first|rfl|(simp;done)|(simp [*];done)),H',⟨by have:=d1.1;have:=d2.1;omega⟩,by repeat (first|exact Drawn0.refl _|apply Drawn0.step)⟩
          ·
           rw [if_neg c8] at H;have c8b0:decide (0 < a8)=false:=decide_eq_false c8;clear c8;have H':=mk0 H;clear H;have J:0 ≤ (B:Int):=of_decide_eq_true (by first|(with_reducible assumption)|assumption);have L:B < (M.length:Int):=of_decide_eq_true (by first|(with_reducible assumption)|assumption);obtain ⟨a9,b7,b8,b9,c1,b0,V,X,E,F,G,I⟩:=at_T60 d0.1 B J L;cases b0;have b3:=mk0 F;have b4:=mk0 E;clear F E;have b5:=mk0 I;have b6:=mk0 G;clear I G;replace J:=eq_true J;replace L:=eq_true L;have Y:0 ≤ (B:Int):=of_decide_eq_true (by first|(with_reducible assumption)|assumption);have Z:B < (M.length:Int):=of_decide_eq_true (by first|(with_reducible assumption)|assumption);obtain ⟨c7,d9,e0,e1,e2,d3,a2,a3,N,O,Q,R⟩:=at_T60 d0.1 B Y Z;obtain rfl:a9=c7:=(by injection d3)
           have d5:=mk0 O;have d6:=mk0 N;clear O N;have a4:=mk0 R;have d7:=mk0 Q;clear R Q;replace Y:=eq_true Y;replace Z:=eq_true Z;have ea_:=Option.some.inj (V.symm.trans a2);injection ea_ with ea_ en_ ec_;subst ea_;subst ec_;clear en_;have ea_:=Option.some.inj (X.symm.trans a3);injection ea_ with ea_ en_ ec_;subst ea_;subst ec_;clear en_;have a0:0 ≤ (D:Int):=of_decide_eq_true (by first|(with_reducible assumption)|assumption);have a1:D < (((rd_T60 M B).f1).length:Int):=of_decide_eq_true (by first|(with_reducible assumption)|assumption);obtain ⟨e3,b1,b2,d4,d8,T,U⟩:=at_L1 a4.1 D a0 a1;cases d4;have a5:=mk0 U;have a6:=mk0 T;clear U T;replace a0:=eq_true a0;replace a1:=eq_true a1;go_wp2_with (first|((with_reducible refine gate_callee (f:=45) rfl ?_);refine goesL_ (some 31) rfl rfl Try.func45 (by kernel_rfl) rfl #[.slice b1 (rd_L1 ((rd_T60 M B).f1) D).length b2] rfl (by (try simp only [m0_,m1_,m2_]);first|done|rfl|(simp only [l0_,l1_];rfl)) ?_;(with_reducible refine (bellpullref05_Total.calls k2 _ _ (rd_L1 ((rd_T60 M B).f1) D) a8 _ ?side1 ?side2 A7.1).mono ?_);(case side1=>repeat (first|exact a5.1|(with_reducible refine Kd.C_alloc ?_ _)|(with_reducible refine Kd.C_drewN ?_ _)|(with_reducible refine Kd.C_drew ?_)));(case side2=>exact a6.1);rintro e w' ⟨rfl,⟨nd,rfl⟩⟩;refine ⟨_,rfl,?_⟩));go_roundg k2
           case measure=>have:=d1.1;have:=d2.1;omega
           case rel=>exact ⟨(a7),(wrap64 (D + 1)),(by first|rfl|(simp;done)|(simp [*];done)),(by first|rfl|(simp;done)|(simp [*];done)),H',⟨by have:=d1.1;have:=d2.1;omega⟩,by repeat (first|exact Drawn0.refl _|apply Drawn0.step)⟩
         ·
          rw [if_neg c6] at H;exact absurd H (by simp)
        ·
         rw [if_neg c5] at H;have c5b0:decide (D < (((rd_T60 M B).f1).length:Int))=false:=decide_eq_false c5;clear c5
         by_cases c10:a7 > 2
         ·
          rw [if_pos c10] at H;have c10b0:decide (2 < a7)=true:=decide_eq_true c10;clear c10;obtain rfl:=Option.some.inj H;have J:0 ≤ (B:Int):=of_decide_eq_true (by first|(with_reducible assumption)|assumption);have L:B < (M.length:Int):=of_decide_eq_true (by first|(with_reducible assumption)|assumption);obtain ⟨a9,b7,b8,b9,c1,b0,V,X,E,F,G,I⟩:=at_T60 d0.1 B J L;cases b0;have b3:=mk0 F;have b4:=mk0 E;clear F E;have b5:=mk0 I;have b6:=mk0 G;clear I G;replace J:=eq_true J;replace L:=eq_true L;go_wp2;go_ret;exact ⟨by first|rfl|(simp;done)|(simp [*];done),by repeat (first|exact Drawn0.refl _|apply Drawn0.step)⟩
         ·
          rw [if_neg c10] at H;have c10b0:decide (2 < a7)=false:=decide_eq_false c10;clear c10;have H':=mk0 H;clear H;have J:0 ≤ (B:Int):=of_decide_eq_true (by first|(with_reducible assumption)|assumption);have L:B < (M.length:Int):=of_decide_eq_true (by first|(with_reducible assumption)|assumption);obtain ⟨a9,b7,b8,b9,c1,b0,V,X,E,F,G,I⟩:=at_T60 d0.1 B J L;cases b0;have b3:=mk0 F;have b4:=mk0 E;clear F E;have b5:=mk0 I;have b6:=mk0 G;clear I G;replace J:=eq_true J;replace L:=eq_true L;go_wp2;go_roundg k2
          case measure=>have:=d1.1;have:=d2.1;omega
          case rel=>exact ⟨(wrap64 (B + 1)),(by first|rfl|(simp;done)|(simp [*];done)),H',⟨by have:=d1.1;have:=d2.1;omega⟩,by repeat (first|exact Drawn0.refl _|apply Drawn0.step)⟩
       ·
        rw [if_neg c4] at H;exact absurd H (by simp)
      ·
       rw [if_neg c3] at H;exact absurd H (by simp)
   ·
    rw [if_neg c2] at H;have c2b0:decide (B < (M.length:Int))=false:=decide_eq_false c2;clear c2;obtain rfl:=Option.some.inj H;go_wp2;go_ret;exact ⟨by first|rfl|(simp;done)|(simp [*];done),by repeat (first|exact Drawn0.refl _|apply Drawn0.step)⟩
end Go.Proofs.Ytkonljiembcdlaa.PC
namespace Go.Proofs.Ytkonljiembcdlaa.PC
open Go.Proofs.MyWords Go.RowKit Go.Proofs.YtkonljiembcdlaaW.PrintWords Go.Proofs.YtkonljiembcdlaaW.PrintLast Go.Proofs.YtkonljiembcdlaaW.PrintMore
attribute [local go_sem] max2_int min2_int max_two min_two max_three min_three max_four min_four   -- for this text's walks alone
set_option linter.unusedVariables false
set_option linter.unusedSimpArgs false
attribute [local go_sem] eqGuard_slices eqlnil23 neqnil23 eqlnil58 neqnil58
def bellpulllaw05_CountParikh.j0:Nat → List Int → List (S60) → Int → Bool → Bool → Option (Bool)
  | 0,_,_,_,_,_=>none
  | k + 1,x6,x7,x8,x9,x52=>if x52=true then (none) else (if x8=0 then ((bellpulllaw05_heavy.f k x7).bind fun t671=>(if t671=true then (some true) else ((count_Has.f k 3 x7 x6).bind fun bt672=>(if bt672.2=0 then (if bt672.1=true then (some x9) else (some (!x9))) else (none))))) else (some true))
def bellpulllaw05_CountParikh.f (k:Nat) (l0:List Int) (a1_0:Int) (a1_1:Int) (a1_2:Int):Option (Bool):=(bellpulllaw05_code.f k l0 12).bind fun t659=>((some (([Int.tmod (wrap64 (a1_0)) 5,Int.tmod (wrap64 (a1_1)) 5,Int.tmod (wrap64 (a1_2)) 5]:List Int):List Int)).bind fun y660=>((count_Image.f k t659).bind fun bt663=>((count_Accepts.f k t659 y660).bind fun bt667=>(if bt667.2=0 then (if bt663.2=0 then ((bellpulllaw05_lives.f k).bind fun t669=>(bellpulllaw05_CountParikh.j0 k y660 bt663.1 bt663.2 bt667.1 (!t669))) else (if bt663.2=7 then ((bellpulllaw05_lives.f k).bind fun t670=>(bellpulllaw05_CountParikh.j0 k y660 bt663.1 bt663.2 bt667.1 (!t670))) else (none))) else (none)))))
theorem bellpulllaw05_CountParikh.mono_l:∀ k,(∀ y0 y1 y2 y3 y4,LeO (bellpulllaw05_CountParikh.j0 k y0 y1 y2 y3 y4) (bellpulllaw05_CountParikh.j0 (k + 1) y0 y1 y2 y3 y4))
  | 0=>fun _ _ _ _ _ r h=>by simp [bellpulllaw05_CountParikh.j0] at h
  | k + 1=>by
    have ih0:=bellpulllaw05_CountParikh.mono_l k
    · intro y0 y1 y2 y3 y4
      unfold bellpulllaw05_CountParikh.j0
      with_reducible repeat' first|exact ih0 _ _ _ _ _|exact bellpulllaw05_code.mono _ _ _|exact bellpulllaw05_heavy.mono _ _|exact bellpulllaw05_lives.mono _|exact count_Accepts.mono _ _ _|exact count_Has.mono _ _ _ _|exact count_Image.mono _ _|exact LeO.refl _|exact LeO.none _|refine LeO.ite ?_ ?_|refine LeO.bind ?_ (fun _=>?_)
theorem bellpulllaw05_CountParikh.mono:∀ a0 a1 a2 a3 k,LeO (bellpulllaw05_CountParikh.f k a0 a1 a2 a3) (bellpulllaw05_CountParikh.f (k + 1) a0 a1 a2 a3):=by
  intro a0 a1 a2 a3 k
  have ih0:=bellpulllaw05_CountParikh.mono_l k
  unfold bellpulllaw05_CountParikh.f
  with_reducible repeat' first|exact ih0 _ _ _ _ _|exact bellpulllaw05_code.mono _ _ _|exact bellpulllaw05_heavy.mono _ _|exact bellpulllaw05_lives.mono _|exact count_Accepts.mono _ _ _|exact count_Has.mono _ _ _ _|exact count_Image.mono _ _|exact LeO.refl _|exact LeO.none _|refine LeO.ite ?_ ?_|refine LeO.bind ?_ (fun _=>?_)
def bellpulllaw05_CountParikh.T1:Bool × List (List Nat × List Nat):=(true,[([],[]),([0],[0]),([],[]),([2],[2]),([3],[3]),([4],[4]),([],[]),([6],[6]),([7],[7]),([8],[8]),([],[]),([10],[10]),([11],[11]),([12],[12]),([5,9,13],[5,9,13]),([1,1,0,1],[1]),([14,15,0,1,2,3,4,5,6,7,8,9,10,11,12,13,14,15],[14])])
def bellpulllaw05_CountParikh.B1:List Nat:=[0,1,0,4,12,28,0,64,192,448,0,1024,3072,7168,16380,3,65535]
theorem bellpulllaw05_CountParikh.tab1:rtab .any (opsOf Try.f6 1)=bellpulllaw05_CountParikh.T1:=by kernel_rfl
theorem bellpulllaw05_CountParikh.bits1:waitsOk bellpulllaw05_CountParikh.T1.2 bellpulllaw05_CountParikh.B1=true:=by kernel_rfl
set_option maxHeartbeats 8000000 in
set_option maxRecDepth 100000 in
theorem bellpulllaw05_CountParikh.calls (k:Nat) (A0:Option Addr) (c0:Nat) (l0:List Int) (J:Int) (L:Int) (O:Int) (r:Bool) (w:World) (g2:Kd.C (Kd.int .u8) w A0 l0.length l0) (g3:l0.length ≤ c0) (h:bellpulllaw05_CountParikh.f k l0 J L O=some r) :
    Calls Try.prog 6 #[.slice A0 l0.length c0,.agg #[.int .u8 J,.int .u8 L,.int .u8 O]] w fun e w'=>e=.returned (.bool r)∧Below w.heap.size w w':=by
 have j3:=Try.underlying51;have i3:=mk0 g2;have i4:=mk0 g3;clear g2 g3;have G:=mk0 (Below.refl w.heap.size w);have H:((bellpulllaw05_code.f k l0 12).bind fun Y=>((some (([Int.tmod (wrap64 (J)) 5,Int.tmod (wrap64 (L)) 5,Int.tmod (wrap64 (O)) 5]:List Int):List Int)).bind fun Q=>((count_Image.f k Y).bind fun U=>((count_Accepts.f k Y Q).bind fun a4=>(if a4.2=0 then (if U.2=0 then ((bellpulllaw05_lives.f k).bind fun b2=>(bellpulllaw05_CountParikh.j0 k Q U.1 U.2 a4.1 (!b2))) else (if U.2=7 then ((bellpulllaw05_lives.f k).bind fun b3=>(bellpulllaw05_CountParikh.j0 k Q U.1 U.2 a4.1 (!b3))) else (none))) else (none))))))=some r:=h;clear h;replace H:=Option.bind_eq_some_iff.mp H;obtain ⟨Y,g4,H⟩:=H;(try dsimp only at H);have A3:=mk0 g4;clear g4;obtain ⟨Q,b0⟩:∃ y_:List Int,y_=(([Int.tmod (wrap64 (J)) 5,Int.tmod (wrap64 (L)) 5,Int.tmod (wrap64 (O)) 5]:List Int)):=⟨_,rfl⟩
 replace H:((count_Image.f k Y).bind fun U=>((count_Accepts.f k Y Q).bind fun a4=>(if a4.2=0 then (if U.2=0 then ((bellpulllaw05_lives.f k).bind fun b2=>(bellpulllaw05_CountParikh.j0 k Q U.1 U.2 a4.1 (!b2))) else (if U.2=7 then ((bellpulllaw05_lives.f k).bind fun b3=>(bellpulllaw05_CountParikh.j0 k Q U.1 U.2 a4.1 (!b3))) else (none))) else (none))))=some r:=by first|(rw [b0];with_reducible exact H)|(have d6:=(Option.bind_some _ _).symm.trans H;rw [b0];with_reducible exact d6)|(have d6:=(Option.bind_some _ _).symm.trans H;with_reducible exact d6)|with_reducible exact H|(rw [b0];exact H)|exact H
 have c7:=mk0 b0;clear b0;replace H:=Option.bind_eq_some_iff.mp H;obtain ⟨⟨a1,X⟩,g5,H⟩:=H;(try dsimp only at H);have A4:=mk0 g5;clear g5;replace H:=Option.bind_eq_some_iff.mp H;obtain ⟨⟨a5,b8⟩,g6,H⟩:=H;(try dsimp only at H);have A5:=mk0 g6;clear g6;have d7:=mk0 H;clear H;go_enter Try.func6,Try.ntmps6;try go_wp2_with (first|((with_reducible refine gate_dst (N:=3) rfl ?_);refine box_event ?hg (N:=3) ?hd (cs:=#[.int .u8 J,.int .u8 L,.int .u8 O]) (t:=51) ?hr ?_;(case hd=>rfl);(case hg=>rfl);(case hr=>first|(go_simp;done)|(go_simp;rfl));intro I hg w7 d8 hb;have B:=mk0 (d8);have f9:=szw hg G;have a2:=f9;replace G:=bst G hb;clear hb d8 hg))
 replace B:=bdr B;replace G:=hdr G;refine start_ (n:=17) (S:=fun w'=>True) (ds:=[]) #[n_,n_,n_,n_,n_,n_,n_,n_,n_,n_,n_,n_,n_,n_,n_,n_,n_] (by kernel_rfl) rfl rfl trivial (fun g0=>?_);refine with_tabW bellpulllaw05_CountParikh.tab1 bellpulllaw05_CountParikh.bits1 (fun g7 i5=>?_);generalize w7.drew=w8 at B G g0 ⊢;refine pure_ (i:=0) (N:=some 13) (v:=?_) (a':=?_) #[y_,n_,n_,n_,n_,n_,n_,n_,n_,n_,n_,n_,n_,n_,n_,n_,n_] rfl rfl (any_of g7.1 (by kernel_rfl)) (fun _ _ _ h=>h) (Or.inl ⟨by rfl,?_⟩) ?_ ?_;rotate_left
 ·
  intro w';go_simp;with_reducible rfl
 rotate_left
 ·
  simp only [Act.put,s0_,s1_,s2_,i64_w,i32_w];rfl
 refine inv_at [1,2,3,4,5,6,7,8,9,10,11,12,13,14,15,16] (fun i6 b a w'=>∃ (D:Value) (F:Value),a=putSel i6 b [(1,14,.string Y),(2,15,.pointer (some ⟨I,0,none⟩)),(3,16,.int .u8 J),(4,17,.int .i64 (wrap64 (J))),(5,18,.int .i64 (Int.tmod (wrap64 (J)) 5)),(6,19,.pointer (some ⟨I,1,none⟩)),(7,20,.int .u8 L),(8,21,.int .i64 (wrap64 (L))),(9,22,.int .i64 (Int.tmod (wrap64 (L)) 5)),(10,23,.pointer (some ⟨I,2,none⟩)),(11,24,.int .u8 O),(12,25,.int .i64 (wrap64 (O))),(13,26,.int .i64 (Int.tmod (wrap64 (O)) 5)),(14,27,D),(15,5,.string Y),(16,6,F)]∧(w'.heap[I]?=some (.cells #[.int .u8 J,.int .u8 L,.int .u8 O] 51 (0,0)))∧(Below w.heap.size w w')∧(b 14=true → Kd.R (Kd.int .i64) 3 w' w.heap.size (fun _=>True) D Q)∧(b 16=true → (F:Value)=D)) g7.1 i5.1 (by kernel_rfl) (by kernel_rfl) ?_ ?_ ?_
 ·
  exact ⟨.bool false,.bool false,by simp only [putSel,Bool.false_eq_true,if_false],B.1,G.1,fun h_=>absurd h_ (by decide),fun h_=>absurd h_ (by decide)⟩
 ·
  skip
  clear B G;refine steps_cons ?_ ?_
  ·
   rintro b a w' ⟨D,F,ha,Q_BK658,Q_HB,Q_HO662,Q_X16_⟩ hb_ hon hoff;refine ⟨_,rfl,fun K Z=>?_⟩;have g8:a.tmps[13]?=some (.slice A0 l0.length c0):=by rw [ha];exact (putSel_off rfl).trans rfl
   replace ha:=mk0 ha;have B:=mk0 Q_BK658;have G:=mk0 Q_HB;refine goes_ Try.func32 (by kernel_rfl) rfl #[.slice A0 l0.length c0,.int .i64 12] (by rfl) rfl rfl (by first|(simp only [m0_,m1_,m2_,Act.eval,Array.getD_eq_getD_getElem?,Option.getD_some,g8];done)|(simp only [m0_,m1_,m2_,Act.eval,Array.getD_eq_getD_getElem?,Option.getD_some,g8];rfl)) ?_;with_reducible refine (bellpulllaw05_code.calls k _ _ l0 12 Y _ ?side1 ?side2 A3.1).mono ?_
   (case side1=>repeat (first|exact (Kd.C_below i3.1 G.1)|(with_reducible refine Kd.C_alloc ?_ _)|(with_reducible refine Kd.C_drewN ?_ _)|(with_reducible refine Kd.C_drew ?_)));(case side2=>exact i4.1);rintro e w9 ⟨rfl,hb⟩;refine ⟨_,rfl,?_⟩;have g9:=bkb B hb;have h0:=bst G hb;have z_HO662:=fun (E:b 14=true)=>(show Kd.R (Kd.int .i64) 3 w9 w.heap.size (fun _=>True) D Q from by first|exact (Kd.R_below (by (with_reducible repeat (first|apply Kd.R_alloc|apply Kd.R_drewN|apply Kd.R_drew));exact (Q_HO662 E)) hb)|exact Kd.R_mono (Kd.R_below (by (with_reducible repeat (first|apply Kd.R_alloc|apply Kd.R_drewN|apply Kd.R_drew));exact (Q_HO662 E)) hb) (fun _ h_=>by first|trivial|exact h_|exact h_.1))
   clear B;clear G;have B:=g9;have G:=h0;clear g9 h0;(try clear hb);refine Z.out _ _ ⟨D,F,(by rw [ha.1];exact putSel_upk 0 hb_ rfl rfl rfl),B.1,G.1,z_HO662,fun E=>absurd ((hoff 16 (by kernel_rfl)).symm.trans E) (by decide)⟩
  refine steps_cons ?_ ?_
  ·
   rintro b a w' ⟨D,F,ha,Q_BK658,Q_HB,Q_HO662,Q_X16_⟩ hb_ hon hoff;refine ⟨_,rfl,fun K Z=>?_⟩;have e3:a.tmps[3]?=some (.pointer (some ⟨I,0,none⟩)):=by rw [ha];exact (putSel_off rfl).trans rfl
   replace ha:=mk0 ha;have B:=mk0 Q_BK658;have G:=mk0 Q_HB;refine value_ (w1:=w') (v:=.pointer (some ⟨I,0,none⟩)) (by rfl) rfl ?_ ?_
   ·
    go_simp;(try simp only [i64_w]);try rfl
   refine Z.out _ _ ⟨D,F,(by rw [ha.1];exact putSel_upk 1 hb_ rfl rfl rfl),Q_BK658,Q_HB,fun E=>absurd ((hoff 14 (by kernel_rfl)).symm.trans E) (by decide),fun E=>absurd ((hoff 16 (by kernel_rfl)).symm.trans E) (by decide)⟩
  refine steps_cons ?_ ?_
  ·
   rintro b a w' ⟨D,F,ha,Q_BK658,Q_HB,Q_HO662,Q_X16_⟩ hb_ hon hoff;refine ⟨_,rfl,fun K Z=>?_⟩;have l1:a.tmps[15]?=some (.pointer (some ⟨I,0,none⟩)):=by rw [ha];exact putSel_on (e:=(2,15,.pointer (some ⟨I,0,none⟩))) 1 rfl rfl (hon 2 (by kernel_rfl)) rfl
   replace ha:=mk0 ha;have B:=mk0 Q_BK658;have G:=mk0 Q_HB;have d9:=q0_ B;have e0:=q1_ B;have e1:=q2_ B;refine value_ (w1:=w') (v:=.int .u8 J) (by rfl) rfl ?_ ?_
   ·
    go_simp;(try simp only [i64_w]);try rfl
   refine Z.out _ _ ⟨D,F,(by rw [ha.1];exact putSel_upk 2 hb_ rfl rfl rfl),Q_BK658,Q_HB,fun E=>absurd ((hoff 14 (by kernel_rfl)).symm.trans E) (by decide),fun E=>absurd ((hoff 16 (by kernel_rfl)).symm.trans E) (by decide)⟩
  refine steps_cons ?_ ?_
  ·
   rintro b a w' ⟨D,F,ha,Q_BK658,Q_HB,Q_HO662,Q_X16_⟩ hb_ hon hoff;refine ⟨_,rfl,fun K Z=>?_⟩;have l2:a.tmps[16]?=some (.int .u8 J):=by rw [ha];exact putSel_on (e:=(3,16,.int .u8 J)) 2 rfl rfl (hon 3 (by kernel_rfl)) rfl
   replace ha:=mk0 ha;have B:=mk0 Q_BK658;have G:=mk0 Q_HB;refine value_ (w1:=w') (v:=.int .i64 (wrap64 (J))) (by rfl) rfl ?_ ?_
   ·
    go_simp;(try simp only [i64_w]);try rfl
   refine Z.out _ _ ⟨D,F,(by rw [ha.1];exact putSel_upk 3 hb_ rfl rfl rfl),Q_BK658,Q_HB,fun E=>absurd ((hoff 14 (by kernel_rfl)).symm.trans E) (by decide),fun E=>absurd ((hoff 16 (by kernel_rfl)).symm.trans E) (by decide)⟩
  refine steps_cons ?_ ?_
  ·
   rintro b a w' ⟨D,F,ha,Q_BK658,Q_HB,Q_HO662,Q_X16_⟩ hb_ hon hoff;refine ⟨_,rfl,fun K Z=>?_⟩;have l3:a.tmps[17]?=some (.int .i64 (wrap64 (J))):=by rw [ha];exact putSel_on (e:=(4,17,.int .i64 (wrap64 (J)))) 3 rfl rfl (hon 4 (by kernel_rfl)) rfl
   replace ha:=mk0 ha;have B:=mk0 Q_BK658;have G:=mk0 Q_HB;refine value_ (w1:=w') (v:=.int .i64 (Int.tmod (wrap64 (J)) 5)) (by rfl) rfl ?_ ?_
   ·
    go_simp;(try simp only [i64_w]);try rfl
   refine Z.out _ _ ⟨D,F,(by rw [ha.1];exact putSel_upk 4 hb_ rfl rfl rfl),Q_BK658,Q_HB,fun E=>absurd ((hoff 14 (by kernel_rfl)).symm.trans E) (by decide),fun E=>absurd ((hoff 16 (by kernel_rfl)).symm.trans E) (by decide)⟩
  refine steps_cons ?_ ?_
  ·
   rintro b a w' ⟨D,F,ha,Q_BK658,Q_HB,Q_HO662,Q_X16_⟩ hb_ hon hoff;refine ⟨_,rfl,fun K Z=>?_⟩;have e3:a.tmps[3]?=some (.pointer (some ⟨I,0,none⟩)):=by rw [ha];exact (putSel_off rfl).trans rfl
   replace ha:=mk0 ha;have B:=mk0 Q_BK658;have G:=mk0 Q_HB;refine value_ (w1:=w') (v:=.pointer (some ⟨I,1,none⟩)) (by rfl) rfl ?_ ?_
   ·
    go_simp;(try simp only [i64_w]);try rfl
   refine Z.out _ _ ⟨D,F,(by rw [ha.1];exact putSel_upk 5 hb_ rfl rfl rfl),Q_BK658,Q_HB,fun E=>absurd ((hoff 14 (by kernel_rfl)).symm.trans E) (by decide),fun E=>absurd ((hoff 16 (by kernel_rfl)).symm.trans E) (by decide)⟩
  refine steps_cons ?_ ?_
  ·
   rintro b a w' ⟨D,F,ha,Q_BK658,Q_HB,Q_HO662,Q_X16_⟩ hb_ hon hoff;refine ⟨_,rfl,fun K Z=>?_⟩;have l4:a.tmps[19]?=some (.pointer (some ⟨I,1,none⟩)):=by rw [ha];exact putSel_on (e:=(6,19,.pointer (some ⟨I,1,none⟩))) 5 rfl rfl (hon 6 (by kernel_rfl)) rfl
   replace ha:=mk0 ha;have B:=mk0 Q_BK658;have G:=mk0 Q_HB;have d9:=q0_ B;have e0:=q1_ B;have e1:=q2_ B;refine value_ (w1:=w') (v:=.int .u8 L) (by rfl) rfl ?_ ?_
   ·
    go_simp;(try simp only [i64_w]);try rfl
   refine Z.out _ _ ⟨D,F,(by rw [ha.1];exact putSel_upk 6 hb_ rfl rfl rfl),Q_BK658,Q_HB,fun E=>absurd ((hoff 14 (by kernel_rfl)).symm.trans E) (by decide),fun E=>absurd ((hoff 16 (by kernel_rfl)).symm.trans E) (by decide)⟩
  refine steps_cons ?_ ?_
  ·
   rintro b a w' ⟨D,F,ha,Q_BK658,Q_HB,Q_HO662,Q_X16_⟩ hb_ hon hoff;refine ⟨_,rfl,fun K Z=>?_⟩;have l5:a.tmps[20]?=some (.int .u8 L):=by rw [ha];exact putSel_on (e:=(7,20,.int .u8 L)) 6 rfl rfl (hon 7 (by kernel_rfl)) rfl
   replace ha:=mk0 ha;have B:=mk0 Q_BK658;have G:=mk0 Q_HB;refine value_ (w1:=w') (v:=.int .i64 (wrap64 (L))) (by rfl) rfl ?_ ?_
   ·
    go_simp;(try simp only [i64_w]);try rfl
   refine Z.out _ _ ⟨D,F,(by rw [ha.1];exact putSel_upk 7 hb_ rfl rfl rfl),Q_BK658,Q_HB,fun E=>absurd ((hoff 14 (by kernel_rfl)).symm.trans E) (by decide),fun E=>absurd ((hoff 16 (by kernel_rfl)).symm.trans E) (by decide)⟩
  refine steps_cons ?_ ?_
  ·
   rintro b a w' ⟨D,F,ha,Q_BK658,Q_HB,Q_HO662,Q_X16_⟩ hb_ hon hoff;refine ⟨_,rfl,fun K Z=>?_⟩;have l6:a.tmps[21]?=some (.int .i64 (wrap64 (L))):=by rw [ha];exact putSel_on (e:=(8,21,.int .i64 (wrap64 (L)))) 7 rfl rfl (hon 8 (by kernel_rfl)) rfl
   replace ha:=mk0 ha;have B:=mk0 Q_BK658;have G:=mk0 Q_HB;refine value_ (w1:=w') (v:=.int .i64 (Int.tmod (wrap64 (L)) 5)) (by rfl) rfl ?_ ?_
   ·
    go_simp;(try simp only [i64_w]);try rfl
   refine Z.out _ _ ⟨D,F,(by rw [ha.1];exact putSel_upk 8 hb_ rfl rfl rfl),Q_BK658,Q_HB,fun E=>absurd ((hoff 14 (by kernel_rfl)).symm.trans E) (by decide),fun E=>absurd ((hoff 16 (by kernel_rfl)).symm.trans E) (by decide)⟩
  refine steps_cons ?_ ?_
  ·
   rintro b a w' ⟨D,F,ha,Q_BK658,Q_HB,Q_HO662,Q_X16_⟩ hb_ hon hoff;refine ⟨_,rfl,fun K Z=>?_⟩;have e3:a.tmps[3]?=some (.pointer (some ⟨I,0,none⟩)):=by rw [ha];exact (putSel_off rfl).trans rfl
   replace ha:=mk0 ha;have B:=mk0 Q_BK658;have G:=mk0 Q_HB;refine value_ (w1:=w') (v:=.pointer (some ⟨I,2,none⟩)) (by rfl) rfl ?_ ?_
   ·
    go_simp;(try simp only [i64_w]);try rfl
   refine Z.out _ _ ⟨D,F,(by rw [ha.1];exact putSel_upk 9 hb_ rfl rfl rfl),Q_BK658,Q_HB,fun E=>absurd ((hoff 14 (by kernel_rfl)).symm.trans E) (by decide),fun E=>absurd ((hoff 16 (by kernel_rfl)).symm.trans E) (by decide)⟩
  refine steps_cons ?_ ?_
  ·
   rintro b a w' ⟨D,F,ha,Q_BK658,Q_HB,Q_HO662,Q_X16_⟩ hb_ hon hoff;refine ⟨_,rfl,fun K Z=>?_⟩;have l7:a.tmps[23]?=some (.pointer (some ⟨I,2,none⟩)):=by rw [ha];exact putSel_on (e:=(10,23,.pointer (some ⟨I,2,none⟩))) 9 rfl rfl (hon 10 (by kernel_rfl)) rfl
   replace ha:=mk0 ha;have B:=mk0 Q_BK658;have G:=mk0 Q_HB;have d9:=q0_ B;have e0:=q1_ B;have e1:=q2_ B;refine value_ (w1:=w') (v:=.int .u8 O) (by rfl) rfl ?_ ?_
   ·
    go_simp;(try simp only [i64_w]);try rfl
   refine Z.out _ _ ⟨D,F,(by rw [ha.1];exact putSel_upk 10 hb_ rfl rfl rfl),Q_BK658,Q_HB,fun E=>absurd ((hoff 14 (by kernel_rfl)).symm.trans E) (by decide),fun E=>absurd ((hoff 16 (by kernel_rfl)).symm.trans E) (by decide)⟩
  refine steps_cons ?_ ?_
  ·
   rintro b a w' ⟨D,F,ha,Q_BK658,Q_HB,Q_HO662,Q_X16_⟩ hb_ hon hoff;refine ⟨_,rfl,fun K Z=>?_⟩;have l8:a.tmps[24]?=some (.int .u8 O):=by rw [ha];exact putSel_on (e:=(11,24,.int .u8 O)) 10 rfl rfl (hon 11 (by kernel_rfl)) rfl
   replace ha:=mk0 ha;have B:=mk0 Q_BK658;have G:=mk0 Q_HB;refine value_ (w1:=w') (v:=.int .i64 (wrap64 (O))) (by rfl) rfl ?_ ?_
   ·
    go_simp;(try simp only [i64_w]);try rfl
   refine Z.out _ _ ⟨D,F,(by rw [ha.1];exact putSel_upk 11 hb_ rfl rfl rfl),Q_BK658,Q_HB,fun E=>absurd ((hoff 14 (by kernel_rfl)).symm.trans E) (by decide),fun E=>absurd ((hoff 16 (by kernel_rfl)).symm.trans E) (by decide)⟩
  refine steps_cons ?_ ?_
  ·
   rintro b a w' ⟨D,F,ha,Q_BK658,Q_HB,Q_HO662,Q_X16_⟩ hb_ hon hoff;refine ⟨_,rfl,fun K Z=>?_⟩;have l9:a.tmps[25]?=some (.int .i64 (wrap64 (O))):=by rw [ha];exact putSel_on (e:=(12,25,.int .i64 (wrap64 (O)))) 11 rfl rfl (hon 12 (by kernel_rfl)) rfl
   replace ha:=mk0 ha;have B:=mk0 Q_BK658;have G:=mk0 Q_HB;refine value_ (w1:=w') (v:=.int .i64 (Int.tmod (wrap64 (O)) 5)) (by rfl) rfl ?_ ?_
   ·
    go_simp;(try simp only [i64_w]);try rfl
   refine Z.out _ _ ⟨D,F,(by rw [ha.1];exact putSel_upk 12 hb_ rfl rfl rfl),Q_BK658,Q_HB,fun E=>absurd ((hoff 14 (by kernel_rfl)).symm.trans E) (by decide),fun E=>absurd ((hoff 16 (by kernel_rfl)).symm.trans E) (by decide)⟩
  refine steps_cons ?_ ?_
  ·
   rintro b a w' ⟨D,F,ha,Q_BK658,Q_HB,Q_HO662,Q_X16_⟩ hb_ hon hoff;refine ⟨_,rfl,fun K Z=>?_⟩;have m0:a.tmps[18]?=some (.int .i64 (Int.tmod (wrap64 (J)) 5)):=by rw [ha];exact putSel_on (e:=(5,18,.int .i64 (Int.tmod (wrap64 (J)) 5))) 4 rfl rfl (hon 5 (by kernel_rfl)) rfl
   have m1:a.tmps[22]?=some (.int .i64 (Int.tmod (wrap64 (L)) 5)):=by rw [ha];exact putSel_on (e:=(9,22,.int .i64 (Int.tmod (wrap64 (L)) 5))) 8 rfl rfl (hon 9 (by kernel_rfl)) rfl
   have m2:a.tmps[26]?=some (.int .i64 (Int.tmod (wrap64 (O)) 5)):=by rw [ha];exact putSel_on (e:=(13,26,.int .i64 (Int.tmod (wrap64 (O)) 5))) 12 rfl rfl (hon 13 (by kernel_rfl)) rfl
   replace ha:=mk0 ha;have B:=mk0 Q_BK658;have G:=mk0 Q_HB;refine Kd.R_lit_step (Kd.int .i64) _ 3 ?hg (N:=27) ?hd (xs:=([Int.tmod (wrap64 (J)) 5,Int.tmod (wrap64 (L)) 5,Int.tmod (wrap64 (O)) 5]:List Int)) (inner:=[.int .i64 (Int.tmod (wrap64 (J)) 5),.int .i64 (Int.tmod (wrap64 (L)) 5),.int .i64 (Int.tmod (wrap64 (O)) 5)]) (ok:=fun _=>True) (okp:=fun _=>True) ?hr ?hp (fun _ hk=>hk) trivial (Below.refl _ _) (Nat.le_refl _) (by simp) ?_;(case hd=>rfl);(case hg=>rfl);(case hr=>first|(go_simp;done)|(go_simp;rfl));(case hp=>exact (Reps.one (show Kd.M (Kd.int .i64) _ _ _ (Int.tmod (wrap64 (J)) 5) [.int .i64 (Int.tmod (wrap64 (J)) 5)] from rfl) (Reps.one (show Kd.M (Kd.int .i64) _ _ _ (Int.tmod (wrap64 (L)) 5) [.int .i64 (Int.tmod (wrap64 (L)) 5)] from rfl) (Reps.one (show Kd.M (Kd.int .i64) _ _ _ (Int.tmod (wrap64 (O)) 5) [.int .i64 (Int.tmod (wrap64 (O)) 5)] from rfl) (Reps.none _ _)))));intro D w9 b5 hb hg_ g1;clear hg_ g1;(first|rw [← c7.1] at b5|(simp only [Int.reduceToNat] at b5;rw [← c7.1] at b5));have T:=mk0 (Kd.R_lower b5 (below_size G.1));replace B:=bkb B hb;replace G:=bst G hb;clear hb b5;refine Z.out _ _ ⟨D,F,(by rw [ha.1];exact putSel_upk 13 hb_ rfl rfl rfl),B.1,G.1,fun _=>T.1,fun E=>absurd ((hoff 16 (by kernel_rfl)).symm.trans E) (by decide)⟩
  refine steps_cons ?_ ?_
  ·
   rintro b a w' ⟨D,F,ha,Q_BK658,Q_HB,Q_HO662,Q_X16_⟩ hb_ hon hoff;refine ⟨_,rfl,fun K Z=>?_⟩;have m3:a.tmps[14]?=some (.string Y):=by rw [ha];exact putSel_on (e:=(1,14,.string Y)) 0 rfl rfl (hon 1 (by kernel_rfl)) rfl
   replace ha:=mk0 ha;have B:=mk0 Q_BK658;have G:=mk0 Q_HB;refine value_ (w1:=w') (v:=.string Y) (by rfl) rfl ?_ ?_
   ·
    go_simp;(try simp only [i64_w]);try rfl
   refine Z.out _ _ ⟨D,F,(by rw [ha.1];exact putSel_upk 14 hb_ rfl rfl rfl),Q_BK658,Q_HB,Q_HO662,fun E=>absurd ((hoff 16 (by kernel_rfl)).symm.trans E) (by decide)⟩
  refine steps_cons ?_ ?_
  ·
   rintro b a w' ⟨D,F,ha,Q_BK658,Q_HB,Q_HO662,Q_X16_⟩ hb_ hon hoff;refine ⟨_,rfl,fun K Z=>?_⟩;have m4:a.tmps[27]?=some (D):=by rw [ha];exact putSel_on (e:=(14,27,D)) 13 rfl rfl (hon 14 (by kernel_rfl)) rfl
   replace ha:=mk0 ha;have B:=mk0 Q_BK658;have G:=mk0 Q_HB;have T:=mk0 (Q_HO662 (hon 14 (by kernel_rfl)));refine value_ (w1:=w') (v:=D) (by rfl) rfl ?_ ?_
   ·
    go_simp;(try simp only [i64_w]);try rfl
   refine Z.out _ _ ⟨D,(D),(by rw [ha.1];exact putSel_upk 15 hb_ rfl rfl rfl),Q_BK658,Q_HB,Q_HO662,fun _=>rfl⟩
  exact steps_nil
 rintro b a m5 hall ⟨D,F,ha,Q_BK658,Q_HB,Q_HO662,Q_X16_⟩;clear B G;have e2:=hall 1 (by kernel_rfl);have e4:=hall 2 (by kernel_rfl);have e5:=hall 3 (by kernel_rfl);have e6:=hall 4 (by kernel_rfl);have e7:=hall 5 (by kernel_rfl);have e8:=hall 6 (by kernel_rfl);have e9:=hall 7 (by kernel_rfl);have f0:=hall 8 (by kernel_rfl);have f1:=hall 9 (by kernel_rfl);have c8:=hall 10 (by kernel_rfl);have c9:=hall 11 (by kernel_rfl);have d0:=hall 12 (by kernel_rfl);have d1:=hall 13 (by kernel_rfl);have b9:=hall 14 (by kernel_rfl);have d2:=hall 15 (by kernel_rfl);have c4:=hall 16 (by kernel_rfl);subst ha;obtain rfl:=(Q_X16_ c4).symm;simp only [putSel,e2,e4,e5,e6,e7,e8,e9,f0,f1,c8,c9,d0,d1,b9,d2,c4,if_true,Act.put,s0_,s1_,s2_];have B:=mk0 Q_BK658;clear Q_BK658;have G:=mk0 Q_HB;clear Q_HB;have T:=mk0 (Q_HO662 b9);clear Q_HO662;clear hall e2 e4 e5 e6 e7 e8 e9 f0 f1 c8 c9 d0 d1 b9 d2 c4;go_upto_region 4 with (first|((with_reducible refine gate_callee (f:=29) rfl ?_);refine goesL_ (some 30) rfl rfl Try.func29 (by kernel_rfl) rfl #[.string Y] rfl (by (try simp only [m0_,m1_,m2_]);first|done|rfl|(simp only [l0_,l1_];rfl)) ?_;(with_reducible refine (count_Image.calls k Y a1 X _ A4.1).mono ?_);rintro e m6 ⟨h3,rfl,h1,hb⟩;refine ⟨_,rfl,?_⟩;have a3:=mk0 (Kd.V_lower (Kd.V_mono (ok':=fun k_=>some k_ ≠ (D:Value).ownBlock∧k_ ≠ I) h1 (fun k_ hk_=>⟨(Kd.fresh' (Kd.R_lt T.1) k_ hk_),(Kd.freshB (g:=I) (o:=.cells #[.int .u8 J,.int .u8 L,.int .u8 O] 51 (0,0)) B.1 k_ hk_)⟩)) (below_size G.1));replace T:=rbl T hb;replace B:=bkb B hb;replace G:=bst G hb;(try clear hb);(try clear h1);obtain ⟨a8,a9,h4⟩:=Kd.R_slice T.1;subst h4)|((with_reducible refine gate_callee (f:=26) rfl ?_);refine goesL_ (some 36) rfl rfl Try.func26 (by kernel_rfl) rfl #[.string Y,.slice a8 Q.length a9] rfl (by (try simp only [m0_,m1_,m2_]);first|done|rfl|(simp only [l0_,l1_];rfl)) ?_;(with_reducible refine (count_Accepts.calls k Y _ _ Q a5 b8 _ ?side1 ?side2 A5.1).mono ?_);(case side1=>repeat (first|exact (Kd.R_reads' T.1).2.2|(with_reducible refine Kd.C_alloc ?_ _)|(with_reducible refine Kd.C_drewN ?_ _)|(with_reducible refine Kd.C_drew ?_)));(case side2=>exact (Kd.R_reads' T.1).2.1);rintro e m7 ⟨rfl,hb⟩;refine ⟨_,rfl,?_⟩;replace T:=rbl T hb;replace a3:=mk0 (Kd.V_below a3.1 hb);replace B:=bkb B hb;replace G:=bst G hb;(try clear hb)));(try simp only [Act.put,s0_,s1_,s2_])
 go_cut [52] (fun i9 wc=>∃ (kq:Nat) (b4:Bool),i9=.bool b4∧Aside0 (bellpulllaw05_CountParikh.j0 kq Q a1 X a5 b4=some r)∧Aside0 (kq ≤ k)∧Aside0 (Kd.R (Kd.int .i64) 3 wc w.heap.size (fun _=>True) (.slice a8 Q.length a9) Q)∧Aside0 (Kd.V k60 60 wc w.heap.size (fun k_=>some k_ ≠ ((.slice a8 Q.length a9):Value).ownBlock∧k_ ≠ I) h3 a1)∧Aside0 (wc.heap[I]?=some (.cells #[.int .u8 J,.int .u8 L,.int .u8 O] 51 (0,0)))∧Aside0 (Below w.heap.size w wc))
 case first =>
  have H:=d7.1;clear d7
  by_cases c16:b8=0
  ·
   rw [if_pos c16] at H;have c16b0:(b8 == 0)=true:=beq_iff_eq.mpr c16;have c16b1:(b8 != 0)=false:=bne_eq_false_iff_eq.mpr c16;clear c16;(first|rw [c16b0]|(simp only [i64_w,i32_w];rw [c16b0])|skip)
   by_cases c17:X=0
   ·
    rw [if_pos c17] at H;have c17b0:(X == 0)=true:=beq_iff_eq.mpr c17;have c17b1:(X != 0)=false:=bne_eq_false_iff_eq.mpr c17;clear c17;replace H:=Option.bind_eq_some_iff.mp H;obtain ⟨b2,f2,H⟩:=H;(try dsimp only at H);have j1:=mk0 f2;clear f2;have H':=mk0 H;clear H;go_wp2_with (first|(go_at_call 22;(with_reducible refine (bellpulllaw05_lives.calls k  b2 _ j1.1).mono ?_);rintro e m8 ⟨rfl,hb⟩;replace T:=rbl T hb;replace a3:=mk0 (Kd.V_below a3.1 hb);replace B:=bkb B hb;replace G:=bst G hb;(try clear hb)));go_meet
    case rel=>exact ⟨_,(!b2),(by first|rfl|(simp;done)|(simp [*];done)),H',⟨by first|omega|exact Nat.le_refl _⟩,⟨by (with_reducible repeat (first|apply Kd.R_alloc|apply Kd.R_drewN|apply Kd.R_drew));exact T.1⟩,⟨by (with_reducible repeat (first|apply Kd.V_alloc|apply Kd.V_drewN|apply Kd.V_drew));exact a3.1⟩,⟨by exact B.1⟩,⟨by repeat (first|(with_reducible first|exact G.1|apply below_alloc|apply pw_below_drewN|apply below_drew1|refine below_set ?_ a2.1)|exact G.1)⟩⟩
   ·
    rw [if_neg c17] at H;have c17b0:(X == 0)=false:=beq_eq_false_iff_ne.mpr c17;have c17b1:(X != 0)=true:=bne_iff_ne.mpr c17
    by_cases c20:X=7
    ·
     rw [if_pos c20] at H;have c20b0:(X == 7)=true:=beq_iff_eq.mpr c20;have c20b1:(X != 7)=false:=bne_eq_false_iff_eq.mpr c20;clear c20;replace H:=Option.bind_eq_some_iff.mp H;obtain ⟨b3,f3,H⟩:=H;(try dsimp only at H);have j2:=mk0 f3;clear f3;have H':=mk0 H;clear H;go_wp2_with (first|(go_at_call 22;(with_reducible refine (bellpulllaw05_lives.calls k  b3 _ j2.1).mono ?_);rintro e m9 ⟨rfl,hb⟩;replace T:=rbl T hb;replace a3:=mk0 (Kd.V_below a3.1 hb);replace B:=bkb B hb;replace G:=bst G hb;(try clear hb)));go_meet
     case rel=>exact ⟨_,(!b3),(by first|rfl|(simp;done)|(simp [*];done)),H',⟨by first|omega|exact Nat.le_refl _⟩,⟨by (with_reducible repeat (first|apply Kd.R_alloc|apply Kd.R_drewN|apply Kd.R_drew));exact T.1⟩,⟨by (with_reducible repeat (first|apply Kd.V_alloc|apply Kd.V_drewN|apply Kd.V_drew));exact a3.1⟩,⟨by exact B.1⟩,⟨by repeat (first|(with_reducible first|exact G.1|apply below_alloc|apply pw_below_drewN|apply below_drew1|refine below_set ?_ a2.1)|exact G.1)⟩⟩
    ·
     rw [if_neg c20] at H;exact absurd H (by simp)
  ·
   rw [if_neg c16] at H;exact absurd H (by simp)
 case rest =>
  clear d7;try clear c1
  try clear c2
  try clear p2
  try clear c3
  try clear c6
  try clear p6
  try clear c16
  try clear c16b0
  try clear c16b1
  try clear c17
  try clear c17b0
  try clear c17b1
  try clear c20
  try clear c20b0
  try clear c20b1
  obtain ⟨kq,b4,rfl,HA,n0,a6,a0,B,G⟩:=hcut;cases kq with
  | zero=>exact absurd HA.1 (by simp [bellpulllaw05_CountParikh.j0])
  | succ kj5 =>
   have H:=HA.1;clear HA;simp only [bellpulllaw05_CountParikh.j0] at H
   by_cases d3:b4=true
   ·
    subst d3;have H1:(none)=some r:=by rw [if_pos rfl] at H;exact H
    clear H;have H:=H1;clear H1;exact absurd H (by simp)
   ·
    replace d3:=Bool.eq_false_iff.mpr d3;subst d3;have H1:(if X=0 then ((bellpulllaw05_heavy.f kj5 a1).bind fun c5=>(if c5=true then (some true) else ((count_Has.f kj5 3 a1 Q).bind fun b1=>(if b1.2=0 then (if b1.1=true then (some a5) else (some (!a5))) else (none))))) else (some true))=some r:=by rw [if_neg (show ¬ (false=true) by decide)] at H;exact H
    clear H;have H:=H1;clear H1
    by_cases c24:X=0
    ·
     rw [if_pos c24] at H;have c24b0:(X == 0)=true:=beq_iff_eq.mpr c24;have c24b1:(X != 0)=false:=bne_eq_false_iff_eq.mpr c24;clear c24;replace H:=Option.bind_eq_some_iff.mp H;obtain ⟨c5,f4,H⟩:=H;(try dsimp only at H);have f5:=mk0 f4;clear f4
     by_cases d4:c5=true
     ·
      subst d4;have H1:(some true)=some r:=by rw [if_pos rfl] at H;exact H
      clear H;have H:=H1;clear H1;obtain rfl:=Option.some.inj H;obtain ⟨j8,j9,h5⟩:=Kd.V_slice a0.1;subst h5;go_wp2_with (first|(go_at_call 21;(with_reducible refine (bellpulllaw05_heavy.calls kj5 _ _ a1 true _ ?side1 ?side2 f5.1).mono ?_);(case side1=>repeat (first|exact (Kd.V_reads' a0.1).2.2|(with_reducible refine Kd.C_alloc ?_ _)|(with_reducible refine Kd.C_drewN ?_ _)|(with_reducible refine Kd.C_drew ?_)));(case side2=>exact (Kd.V_reads' a0.1).2.1);rintro e w' ⟨rfl,⟨nd,rfl⟩⟩));go_ret;exact ⟨by first|rfl|(simp [errW_none,errW_some] <;> rfl)|(simp [*,errW_none,errW_some] <;> rfl),by repeat (first|(with_reducible first|exact G.1|apply below_alloc|apply pw_below_drewN|apply below_drew1|refine below_set ?_ a2.1)|exact G.1)⟩
     ·
      replace d4:=Bool.eq_false_iff.mpr d4;subst d4;have H1:((count_Has.f kj5 3 a1 Q).bind fun b1=>(if b1.2=0 then (if b1.1=true then (some a5) else (some (!a5))) else (none)))=some r:=by rw [if_neg (show ¬ (false=true) by decide)] at H;exact H
      clear H;have H:=H1;clear H1;replace H:=Option.bind_eq_some_iff.mp H;obtain ⟨⟨h6,b6⟩,f6,H⟩:=H;(try dsimp only at H);have h2:=mk0 f6;clear f6
      by_cases c29:b6=0
      ·
       rw [if_pos c29] at H;have c29b0:(b6 == 0)=true:=beq_iff_eq.mpr c29;have c29b1:(b6 != 0)=false:=bne_eq_false_iff_eq.mpr c29;clear c29
       by_cases d5:h6=true
       ·
        subst d5;have H1:(some a5)=some r:=by rw [if_pos rfl] at H;exact H
        clear H;have H:=H1;clear H1;obtain rfl:=Option.some.inj H;obtain ⟨h7,h8,h9⟩:=Kd.V_slice a0.1;subst h9;go_wp2_with (first|(go_at_call 21;(with_reducible refine (bellpulllaw05_heavy.calls kj5 _ _ a1 false _ ?side1 ?side2 f5.1).mono ?_);(case side1=>repeat (first|exact (Kd.V_reads' a0.1).2.2|(with_reducible refine Kd.C_alloc ?_ _)|(with_reducible refine Kd.C_drewN ?_ _)|(with_reducible refine Kd.C_drew ?_)));(case side2=>exact (Kd.V_reads' a0.1).2.1);rintro e w' ⟨rfl,⟨nd,rfl⟩⟩)|((with_reducible refine gate_callee (f:=23) rfl ?_);refine goesL_ (some 62) rfl rfl Try.func23 (by kernel_rfl) rfl #[.int .i64 3,.slice h7 a1.length h8,.slice a8 Q.length a9] rfl (by (try simp only [m0_,m1_,m2_]);first|done|rfl|(simp only [l0_,l1_];rfl)) ?_;(with_reducible refine (count_Has.calls kj5 3 (fun k_=>(some k_ ≠ (.slice a8 Q.length a9:Value).ownBlock∧k_ ≠ I)) _ _ a1 _ _ Q true b6 _ ?side1 ?side2 ?side3 h2.1).mono ?_);(case side1=>exact a0.1);(case side2=>repeat (first|exact (Kd.R_reads' a6.1).2.2|(with_reducible refine Kd.C_alloc ?_ _)|(with_reducible refine Kd.C_drewN ?_ _)|(with_reducible refine Kd.C_drew ?_)));(case side3=>exact (Kd.R_reads' a6.1).2.1);rintro e n1 ⟨rfl,hb⟩;refine ⟨_,rfl,?_⟩;replace a6:=mk0 (Kd.R_below (by (with_reducible repeat (first|apply Kd.R_alloc|apply Kd.R_drewN|apply Kd.R_drew));exact a6.1) hb);replace a0:=mk0 (Kd.V_below (by (with_reducible repeat (first|apply Kd.V_alloc|apply Kd.V_drewN|apply Kd.V_drew));exact a0.1) hb);replace B:=mk0 (blk_below (g:=I) (o:=.cells #[.int .u8 J,.int .u8 L,.int .u8 O] 51 (0,0)) (by (with_reducible repeat (first|refine blk_drewN ?_ _|refine blk_drew ?_|refine blk_alloc ?_ _));exact B.1) hb);replace G:=mk0 (below_step (by repeat (first|(with_reducible first|exact G.1|apply below_alloc|apply pw_below_drewN|apply below_drew1|refine below_set ?_ a2.1)|exact G.1)) hb);(try clear hb)));go_ret;exact ⟨by first|rfl|(simp [errW_none,errW_some] <;> rfl)|(simp [*,errW_none,errW_some] <;> rfl),by repeat (first|(with_reducible first|exact G.1|apply below_alloc|apply pw_below_drewN|apply below_drew1|refine below_set ?_ a2.1)|exact G.1)⟩
       ·
        replace d5:=Bool.eq_false_iff.mpr d5;subst d5;have H1:(some (!a5))=some r:=by rw [if_neg (show ¬ (false=true) by decide)] at H;exact H
        clear H;have H:=H1;clear H1;obtain rfl:=Option.some.inj H;obtain ⟨i0,i1,i2⟩:=Kd.V_slice a0.1;subst i2;go_wp2_with (first|(go_at_call 21;(with_reducible refine (bellpulllaw05_heavy.calls kj5 _ _ a1 false _ ?side1 ?side2 f5.1).mono ?_);(case side1=>repeat (first|exact (Kd.V_reads' a0.1).2.2|(with_reducible refine Kd.C_alloc ?_ _)|(with_reducible refine Kd.C_drewN ?_ _)|(with_reducible refine Kd.C_drew ?_)));(case side2=>exact (Kd.V_reads' a0.1).2.1);rintro e w' ⟨rfl,⟨nd,rfl⟩⟩)|((with_reducible refine gate_callee (f:=23) rfl ?_);refine goesL_ (some 62) rfl rfl Try.func23 (by kernel_rfl) rfl #[.int .i64 3,.slice i0 a1.length i1,.slice a8 Q.length a9] rfl (by (try simp only [m0_,m1_,m2_]);first|done|rfl|(simp only [l0_,l1_];rfl)) ?_;(with_reducible refine (count_Has.calls kj5 3 (fun k_=>(some k_ ≠ (.slice a8 Q.length a9:Value).ownBlock∧k_ ≠ I)) _ _ a1 _ _ Q false b6 _ ?side1 ?side2 ?side3 h2.1).mono ?_);(case side1=>exact a0.1);(case side2=>repeat (first|exact (Kd.R_reads' a6.1).2.2|(with_reducible refine Kd.C_alloc ?_ _)|(with_reducible refine Kd.C_drewN ?_ _)|(with_reducible refine Kd.C_drew ?_)));(case side3=>exact (Kd.R_reads' a6.1).2.1);rintro e n2 ⟨rfl,hb⟩;refine ⟨_,rfl,?_⟩;replace a6:=mk0 (Kd.R_below (by (with_reducible repeat (first|apply Kd.R_alloc|apply Kd.R_drewN|apply Kd.R_drew));exact a6.1) hb);replace a0:=mk0 (Kd.V_below (by (with_reducible repeat (first|apply Kd.V_alloc|apply Kd.V_drewN|apply Kd.V_drew));exact a0.1) hb);replace B:=mk0 (blk_below (g:=I) (o:=.cells #[.int .u8 J,.int .u8 L,.int .u8 O] 51 (0,0)) (by (with_reducible repeat (first|refine blk_drewN ?_ _|refine blk_drew ?_|refine blk_alloc ?_ _));exact B.1) hb);replace G:=mk0 (below_step (by repeat (first|(with_reducible first|exact G.1|apply below_alloc|apply pw_below_drewN|apply below_drew1|refine below_set ?_ a2.1)|exact G.1)) hb);(try clear hb)));go_ret;exact ⟨by first|rfl|(simp [errW_none,errW_some] <;> rfl)|(simp [*,errW_none,errW_some] <;> rfl),by repeat (first|(with_reducible first|exact G.1|apply below_alloc|apply pw_below_drewN|apply below_drew1|refine below_set ?_ a2.1)|exact G.1)⟩
      ·
       rw [if_neg c29] at H;exact absurd H (by simp)
    ·
     rw [if_neg c24] at H;have c24b0:(X == 0)=false:=beq_eq_false_iff_ne.mpr c24;have c24b1:(X != 0)=true:=bne_iff_ne.mpr c24;obtain rfl:=Option.some.inj H;go_wp2;go_ret;exact ⟨by first|rfl|(simp [errW_none,errW_some] <;> rfl)|(simp [*,errW_none,errW_some] <;> rfl),by repeat (first|(with_reducible first|exact G.1|apply below_alloc|apply pw_below_drewN|apply below_drew1|refine below_set ?_ a2.1)|exact G.1)⟩
end Go.Proofs.Ytkonljiembcdlaa.PC
namespace Go.Proofs.Ytkonljiembcdlaa.PC
open Go.Proofs.MyWords Go.RowKit Go.Proofs.YtkonljiembcdlaaW.PrintWords Go.Proofs.YtkonljiembcdlaaW.PrintLast Go.Proofs.YtkonljiembcdlaaW.PrintMore
attribute [local go_sem] max2_int min2_int max_two min_two max_three min_three max_four min_four   -- for this text's walks alone
set_option linter.unusedVariables false
set_option linter.unusedSimpArgs false
attribute [local go_sem] eqGuard_slices eqlnil23 neqnil23 eqlnil58 neqnil58
def bellpullref05_Less.l0:Nat → List Int → List Int → List Int → Bool → Int → Option (List Int × Bool)
  | 0,_,_,_,_,_=>none
  | k + 1,x0,x1,x6,x7,x8=>if x8 < (x0.length:Int) then (if 0 ≤ x8 then (if x8 < (x1.length:Int) then (if x6.length < 17592186044416 then ((some (x6 ++ [wrap64 ((rd x0 x8) - (rd x1 x8))]:List Int)).bind fun y416=>(if x7=true then (bellpullref05_Less.l0 k x0 x1 y416 (decide ((rd x0 x8) ≥ (rd x1 x8))) (wrap64 (x8 + 1))) else (bellpullref05_Less.l0 k x0 x1 y416 false (wrap64 (x8 + 1))))) else (none)) else (none)) else (none)) else (some (x6,x7))
def bellpullref05_Less.f (k:Nat) (l0:List Int) (l1:List Int):Option (List Int × Bool):=bellpullref05_Less.l0 k l0 l1 (([]:List Int)) true 0
theorem bellpullref05_Less.mono_l:∀ k,(∀ y0 y1 y2 y3 y4,LeO (bellpullref05_Less.l0 k y0 y1 y2 y3 y4) (bellpullref05_Less.l0 (k + 1) y0 y1 y2 y3 y4))
  | 0=>fun _ _ _ _ _ r h=>by simp [bellpullref05_Less.l0] at h
  | k + 1=>by
    have ih0:=bellpullref05_Less.mono_l k
    · intro y0 y1 y2 y3 y4
      unfold bellpullref05_Less.l0
      with_reducible repeat' first|exact ih0 _ _ _ _ _|exact LeO.refl _|exact LeO.none _|refine LeO.ite ?_ ?_|refine LeO.bind ?_ (fun _=>?_)
theorem bellpullref05_Less.mono:∀ a0 a1 k,LeO (bellpullref05_Less.f k a0 a1) (bellpullref05_Less.f (k + 1) a0 a1):=by
  intro a0 a1 k
  have ih0:=bellpullref05_Less.mono_l k
  unfold bellpullref05_Less.f
  with_reducible repeat' first|exact ih0 _ _ _ _ _|exact LeO.refl _|exact LeO.none _|refine LeO.ite ?_ ?_|refine LeO.bind ?_ (fun _=>?_)
end Go.Proofs.Ytkonljiembcdlaa.PC
namespace Go.Proofs.Ytkonljiembcdlaa.PC
open Go.Proofs.MyWords Go.RowKit Go.Proofs.YtkonljiembcdlaaW.PrintWords Go.Proofs.YtkonljiembcdlaaW.PrintLast Go.Proofs.YtkonljiembcdlaaW.PrintMore
attribute [local go_sem] max2_int min2_int max_two min_two max_three min_three max_four min_four   -- for this text's walks alone
set_option linter.unusedVariables false
set_option linter.unusedSimpArgs false
attribute [local go_sem] eqGuard_slices eqlnil23 neqnil23 eqlnil58 neqnil58
mutual
def bellpullref05_sums.l0:Nat → List Int → List (List Int) → Int → Option (Bool)
  | 0,_,_,_=>none
  | k + 1,x0,x1,x5=>if x5 < (x1.length:Int) then (if 0 ≤ x5 then ((bellpullref05_Total.f k (rd_L1 x1 x5)).bind fun t423=>(if t423=0 then (bellpullref05_sums.l0 k x0 x1 (wrap64 (x5 + 1))) else ((bellpullref05_Less.f k x0 (rd_L1 x1 x5)).bind fun bt425=>(if bt425.2=true then (if x5 ≤ (x1.length:Int) then ((bellpullref05_sums.f k bt425.1 (x1.drop (x5:Int).toNat)).bind fun t433=>(if t433=true then (some true) else (bellpullref05_sums.l0 k x0 x1 (wrap64 (x5 + 1))))) else (none)) else (bellpullref05_sums.l0 k x0 x1 (wrap64 (x5 + 1))))))) else (none)) else (some false)
def bellpullref05_sums.f:Nat → List Int → List (List Int) → Option (Bool)
  | 0,_,_=>none
  | k + 1,l0,l1=>(bellpullref05_Total.f k l0).bind fun t421=>(if t421=0 then (some true) else (bellpullref05_sums.l0 k l0 l1 0))
end
theorem bellpullref05_sums.mono_l:∀ k,(∀ y0 y1,LeO (bellpullref05_sums.f k y0 y1) (bellpullref05_sums.f (k + 1) y0 y1))∧(∀ y0 y1 y2,LeO (bellpullref05_sums.l0 k y0 y1 y2) (bellpullref05_sums.l0 (k + 1) y0 y1 y2))
  | 0=>⟨fun _ _ r h=>by simp [bellpullref05_sums.f] at h,fun _ _ _ r h=>by simp [bellpullref05_sums.l0] at h⟩
  | k + 1=>by
    obtain ⟨ih0,ih1⟩:=bellpullref05_sums.mono_l k
    refine ⟨?_,?_⟩
    · intro y0 y1
      unfold bellpullref05_sums.f
      with_reducible repeat' first|exact ih0 _ _|exact ih1 _ _ _|exact bellpullref05_Less.mono _ _ _|exact bellpullref05_Total.mono _ _|exact LeO.refl _|exact LeO.none _|refine LeO.ite ?_ ?_|refine LeO.bind ?_ (fun _=>?_)
    · intro y0 y1 y2
      unfold bellpullref05_sums.l0
      with_reducible repeat' first|exact ih0 _ _|exact ih1 _ _ _|exact bellpullref05_Less.mono _ _ _|exact bellpullref05_Total.mono _ _|exact LeO.refl _|exact LeO.none _|refine LeO.ite ?_ ?_|refine LeO.bind ?_ (fun _=>?_)
theorem bellpullref05_sums.mono:∀ a0 a1 k,LeO (bellpullref05_sums.f k a0 a1) (bellpullref05_sums.f (k + 1) a0 a1):=by
  intro a0 a1 k
  obtain ⟨ih0,ih1⟩:=bellpullref05_sums.mono_l k
  exact ih0 a0 a1
end Go.Proofs.Ytkonljiembcdlaa.PC
namespace Go.Proofs.Ytkonljiembcdlaa.PC
open Go.Proofs.MyWords Go.RowKit Go.Proofs.YtkonljiembcdlaaW.PrintWords Go.Proofs.YtkonljiembcdlaaW.PrintLast Go.Proofs.YtkonljiembcdlaaW.PrintMore
attribute [local go_sem] max2_int min2_int max_two min_two max_three min_three max_four min_four   -- for this text's walks alone
set_option linter.unusedVariables false
set_option linter.unusedSimpArgs false
attribute [local go_sem] eqGuard_slices eqlnil23 neqnil23 eqlnil58 neqnil58
def bellpullref05_Has.l0:Nat → List (S60) → List Int → Int → Option (Bool)
  | 0,_,_,_=>none
  | k + 1,x0,x1,x5=>if x5 < (x0.length:Int) then (if 0 ≤ x5 then ((bellpullref05_Less.f k x1 ((rd_T60 x0 x5).f0)).bind fun bt435=>(if bt435.2=true then ((bellpullref05_sums.f k bt435.1 ((rd_T60 x0 x5).f1)).bind fun t440=>(if t440=true then (some true) else (bellpullref05_Has.l0 k x0 x1 (wrap64 (x5 + 1))))) else (bellpullref05_Has.l0 k x0 x1 (wrap64 (x5 + 1))))) else (none)) else (some false)
def bellpullref05_Has.f (k:Nat) (l0:List (S60)) (l1:List Int):Option (Bool):=bellpullref05_Has.l0 k l0 l1 0
theorem bellpullref05_Has.mono_l:∀ k,(∀ y0 y1 y2,LeO (bellpullref05_Has.l0 k y0 y1 y2) (bellpullref05_Has.l0 (k + 1) y0 y1 y2))
  | 0=>fun _ _ _ r h=>by simp [bellpullref05_Has.l0] at h
  | k + 1=>by
    have ih0:=bellpullref05_Has.mono_l k
    · intro y0 y1 y2
      unfold bellpullref05_Has.l0
      with_reducible repeat' first|exact ih0 _ _ _|exact bellpullref05_Less.mono _ _ _|exact bellpullref05_sums.mono _ _ _|exact LeO.refl _|exact LeO.none _|refine LeO.ite ?_ ?_|refine LeO.bind ?_ (fun _=>?_)
theorem bellpullref05_Has.mono:∀ a0 a1 k,LeO (bellpullref05_Has.f k a0 a1) (bellpullref05_Has.f (k + 1) a0 a1):=by
  intro a0 a1 k
  have ih0:=bellpullref05_Has.mono_l k
  unfold bellpullref05_Has.f
  with_reducible repeat' first|exact ih0 _ _ _|exact bellpullref05_Less.mono _ _ _|exact bellpullref05_sums.mono _ _ _|exact LeO.refl _|exact LeO.none _|refine LeO.ite ?_ ?_|refine LeO.bind ?_ (fun _=>?_)
end Go.Proofs.Ytkonljiembcdlaa.PC
/- Small tools for statements of the form 'with enough rounds the answer is r'. -/
set_option linter.unusedVariables false
set_option linter.unusedSimpArgs false
namespace Go.Proofs.Ytkonljiembcdlaa.Pure
open Go.RowKit Go.Proofs.YtkonljiembcdlaaW.PrintWords
theorem wrap_id {x:Int} (h0:-9223372036854775808 ≤ x) (h1:x ≤ 9223372036854775807):wrap64 x=x:=by
  unfold wrap64;omega
section
variable {α β:Type} {g a b:Nat → Option α} {r:α}
theorem Ev.rounds (h:Ev g r):∃ k,g k=some r:=by
  obtain ⟨K,hK⟩:=h
  exact ⟨K,hK K (Nat.le_refl _)⟩
theorem Ev.succ (h:Ev (fun k=>g (k + 1)) r):Ev g r:=Ev.step (fun _=>rfl) h
theorem Ev.pos {c:Prop} [Decidable c] (hc:c) (h:Ev a r):Ev (fun k=>if c then a k else b k) r:=by
  simpa only [if_pos hc] using h
theorem Ev.neg {c:Prop} [Decidable c] (hc:¬ c) (h:Ev b r):Ev (fun k=>if c then a k else b k) r:=by
  simpa only [if_neg hc] using h
theorem Ev.bindc {o:Option β} {f:Nat → β → Option α} {x:β} (ho:o=some x) (h:Ev (fun k=>f k x) r):Ev (fun k=>o.bind (f k)) r:=by
  subst ho;simpa only [Option.bind_some] using h
end
theorem rd_app (pre:List Int) (x:Int) (t:List Int):rd (pre ++ x :: t) (pre.length:Int)=x:=by
  simp [rd,List.getD_eq_getElem?_getD]
theorem wf_u8 {a:Int} (h:(Lit.int .u8 a).wf=true):0 ≤ a∧a ≤ 255:=by
  simp only [Lit.wf,Bool.and_eq_true,decide_eq_true_eq] at h
  exact h
end Go.Proofs.Ytkonljiembcdlaa.Pure
/- Sums of periods, in plain Lean. -/
set_option linter.unusedVariables false
namespace Go.Proofs.Ytkonljiembcdlaa.Sem
abbrev Vec:=List Int
def addV:Vec → Vec → Vec
  | x :: v,y :: w=>(x + y) :: addV v w
  | _,_=>[]
def subV:Vec → Vec → Vec
  | x :: v,y :: w=>(x - y) :: subV v w
  | _,_=>[]
def zeroN (d:Nat):Vec:=List.replicate d 0
def nnV (v:Vec):Prop:=∀ x,x ∈ v → 0 ≤ x
instance (v:Vec):Decidable (nnV v):=by unfold nnV;infer_instance
theorem addV_comm:∀ v w:Vec,addV v w=addV w v
  | [],[]=>rfl
  | [],y :: w=>rfl
  | x :: v,[]=>rfl
  | x :: v,y :: w=>by rw [addV,addV,addV_comm v w,Int.add_comm]
theorem addV_assoc:∀ v w u:Vec,addV (addV v w) u=addV v (addV w u)
  | [],w,u=>by simp [addV]
  | x :: v,[],u=>by simp [addV]
  | x :: v,y :: w,[]=>by simp [addV]
  | x :: v,y :: w,z :: u=>by rw [addV,addV,addV,addV,addV_assoc v w u,Int.add_assoc]
theorem addV_swap (v w u:Vec):addV (addV v w) u=addV (addV v u) w:=by
  rw [addV_assoc,addV_comm w u,← addV_assoc]
theorem addV_len {d:Nat}:∀ {v w:Vec},v.length=d → w.length=d → (addV v w).length=d:=by
  induction d with
  | zero=>intro v w hv hw;rw [List.length_eq_zero_iff.1 hv,List.length_eq_zero_iff.1 hw];rfl
  | succ d ih =>
    intro v w hv hw
    match v,w,hv,hw with
    | x :: v,y :: w,hv,hw=>simp at hv hw;simp [addV,ih hv hw]
theorem subV_len {d:Nat}:∀ {v w:Vec},v.length=d → w.length=d → (subV v w).length=d:=by
  induction d with
  | zero=>intro v w hv hw;rw [List.length_eq_zero_iff.1 hv,List.length_eq_zero_iff.1 hw];rfl
  | succ d ih =>
    intro v w hv hw
    match v,w,hv,hw with
    | x :: v,y :: w,hv,hw=>simp at hv hw;simp [subV,ih hv hw]
theorem zeroN_len (d:Nat):(zeroN d).length=d:=List.length_replicate
theorem zeroN_mem {d:Nat} {x:Int} (h:x ∈ zeroN d):x=0:=List.eq_of_mem_replicate h
theorem zeroN_succ (d:Nat):zeroN (d + 1)=0 :: zeroN d:=rfl
theorem eq_zeroN:∀ {v:Vec} {d:Nat},v.length=d → (∀ x,x ∈ v → x=0) → v=zeroN d
  | v,d,h,hz=>List.eq_replicate_iff.2 ⟨h,hz⟩
theorem addV_zero:∀ {v:Vec} {d:Nat},v.length=d → addV v (zeroN d)=v
  | [],0,_=>rfl
  | x :: v,d + 1,h=>by
    simp at h
    rw [zeroN_succ,addV,addV_zero h,Int.add_zero]
theorem zero_addV {v:Vec} {d:Nat} (h:v.length=d):addV (zeroN d) v=v:=by rw [addV_comm,addV_zero h]
theorem subV_add:∀ {v w:Vec},v.length=w.length → addV (subV v w) w=v
  | [],[],_=>rfl
  | x :: v,y :: w,h=>by
    simp at h
    rw [subV,addV,subV_add h,Int.sub_add_cancel]
theorem addV_sub:∀ {v w:Vec},v.length=w.length → subV (addV v w) w=v
  | [],[],_=>rfl
  | x :: v,y :: w,h=>by
    simp at h
    rw [addV,subV,addV_sub h,Int.add_sub_cancel]
theorem sum_addV:∀ {v w:Vec},v.length=w.length → (addV v w).sum=v.sum + w.sum
  | [],[],_=>rfl
  | x :: v,y :: w,h=>by
    simp at h
    rw [addV,List.sum_cons,List.sum_cons,List.sum_cons,sum_addV h]
    omega
theorem sum_subV {v w:Vec} (h:v.length=w.length):(subV v w).sum=v.sum - w.sum:=by
  have h1:=sum_addV (v:=subV v w) (w:=w) (by rw [subV_len h rfl])
  rw [subV_add h] at h1
  omega
theorem nn_addV:∀ {v w:Vec},nnV v → nnV w → nnV (addV v w)
  | [],w,_,_=>by intro x hx;simp [addV] at hx
  | x :: v,[],_,_=>by intro x hx;simp [addV] at hx
  | x :: v,y :: w,hv,hw=>by
    intro z hz
    rw [addV] at hz
    rcases List.mem_cons.1 hz with rfl|hz
    · have:=hv x (by simp)
      have:=hw y (by simp)
      omega
    · exact nn_addV (fun a ha=>hv a (by simp [ha])) (fun a ha=>hw a (by simp [ha])) z hz
theorem sum_nn:∀ {v:Vec},nnV v → 0 ≤ v.sum
  | [],_=>by simp
  | x :: v,h=>by
    rw [List.sum_cons]
    have:=h x (by simp)
    have:=sum_nn (v:=v) (fun a ha=>h a (by simp [ha]))
    omega
theorem zero_of_sum:∀ {v:Vec},nnV v → v.sum=0 → ∀ x,x ∈ v → x=0
  | [],_,_=>by simp
  | x :: v,h,hs=>by
    rw [List.sum_cons] at hs
    have h1:=h x (by simp)
    have h2:=sum_nn (v:=v) (fun a ha=>h a (by simp [ha]))
    intro y hy
    rcases List.mem_cons.1 hy with rfl|hy
    · omega
    · exact zero_of_sum (fun a ha=>h a (by simp [ha])) (by omega) y hy
theorem nn_zeroN (d:Nat):nnV (zeroN d):=fun x hx=>by rw [zeroN_mem hx];decide
inductive Comb (d:Nat) (ps:List Vec):Vec → Prop
  | zero:Comb d ps (zeroN d)
  | add {p w}:p ∈ ps → Comb d ps w → Comb d ps (addV w p)
def okD (d:Nat) (ps:List Vec):Prop:=∀ p,p ∈ ps → p.length=d∧nnV p
theorem okD.tail {d:Nat} {p:Vec} {ps:List Vec} (h:okD d (p :: ps)):okD d ps:=fun q hq=>h q (by simp [hq])
section
variable {d:Nat} {ps:List Vec}
theorem Comb.len (hp:okD d ps) {v:Vec} (h:Comb d ps v):v.length=d:=by
  induction h with
  | zero=>exact zeroN_len d
  | add h1 _ ih=>exact addV_len ih (hp _ h1).1
theorem Comb.nn (hp:okD d ps) {v:Vec} (h:Comb d ps v):nnV v:=by
  induction h with
  | zero=>exact nn_zeroN d
  | add h1 _ ih=>exact nn_addV ih (hp _ h1).2
theorem Comb.mono {qs:List Vec} (hs:∀ p,p ∈ ps → p ∈ qs) {v:Vec} (h:Comb d ps v):Comb d qs v:=by
  induction h with
  | zero=>exact .zero
  | add h1 _ ih=>exact .add (hs _ h1) ih
theorem Comb.plus (hp:okD d ps) {v w:Vec} (h:Comb d ps v) (k:Comb d ps w):Comb d ps (addV v w):=by
  induction k with
  | zero=>rw [addV_zero (h.len hp)];exact h
  | add h1 _ ih=>rw [← addV_assoc];exact .add h1 ih
theorem Comb.one (hp:okD d ps) {p:Vec} (h:p ∈ ps):Comb d ps p:=by
  have:=Comb.add (d:=d) h .zero
  rwa [zero_addV (hp p h).1] at this
theorem comb_nil {v:Vec}:Comb d [] v ↔ v=zeroN d :=
  ⟨fun h=>by cases h with
    | zero=>rfl
    | add h1 _=>simp at h1,fun h=>h ▸ .zero⟩
theorem comb_cons {p v:Vec}:Comb d (p :: ps) v ↔ Comb d ps v ∨ ∃ w,Comb d (p :: ps) w∧v=addV w p:=by
  constructor
  · intro h
    induction h with
    | zero=>exact .inl .zero
    | @add q w h1 h2 ih =>
      rcases List.mem_cons.1 h1 with rfl|h1
      · exact .inr ⟨w,h2,rfl⟩
      · rcases ih with ih|⟨u,hu,rfl⟩
        · exact .inl (.add h1 ih)
        · exact .inr ⟨addV u q,.add (by simp [h1]) hu,addV_swap _ _ _⟩
  · rintro (h|⟨w,h,rfl⟩)
    · exact h.mono (fun q hq=>by simp [hq])
    · exact .add (by simp) h
theorem comb_sub {p v:Vec} (hp:okD d (p :: ps)) (hv:v.length=d):Comb d (p :: ps) v ↔ Comb d ps v ∨ Comb d (p :: ps) (subV v p):=by
  have hl:v.length=p.length:=hv.trans (hp p (by simp)).1.symm
  rw [comb_cons]
  constructor
  · rintro (h|⟨w,h,rfl⟩)
    · exact .inl h
    · rw [addV_sub ((h.len hp).trans (hp p (by simp)).1.symm)]
      exact .inr h
  · rintro (h|h)
    · exact .inl h
    · exact .inr ⟨_,h,(subV_add hl).symm⟩
theorem comb_filter (hp:okD d ps) (f:Vec → Bool) (hf:∀ p,p ∈ ps → f p=false → p=zeroN d) {v:Vec}:Comb d (ps.filter f) v ↔ Comb d ps v:=by
  constructor
  · exact fun h=>h.mono (fun q hq=>(List.mem_filter.1 hq).1)
  · intro h
    have ho:okD d (ps.filter f):=fun q hq=>hp q (List.mem_filter.1 hq).1
    induction h with
    | zero=>exact .zero
    | @add p w h1 _ ih =>
      cases hb:f p with
      | true=>exact .add (List.mem_filter.2 ⟨h1,hb⟩) ih
      | false=>rw [hf p h1 hb,addV_zero (ih.len ho)];exact ih
end
end Go.Proofs.Ytkonljiembcdlaa.Sem
/- Differences of vectors, and sums of periods, as the program and the reference take them, in plain Lean. -/
set_option linter.unusedVariables false
set_option linter.unusedSimpArgs false
namespace Go.Proofs.Ytkonljiembcdlaa.Pure
open Go.RowKit Go.Proofs.MyWords Go.Proofs.YtkonljiembcdlaaW.PrintWords Go.Proofs.YtkonljiembcdlaaW.PrintLast Go.Proofs.YtkonljiembcdlaaW.PrintMore Go.Proofs.Ytkonljiembcdlaa.PC Go.Proofs.Ytkonljiembcdlaa.Sem
theorem getD_app {α:Type} (pre:List α) (x:α) (t:List α) (d:α):(pre ++ x :: t).getD ((pre.length:Int)).toNat d=x:=by
  simp [List.getD_eq_getElem?_getD]
theorem rdL1_app (pre:List (List Int)) (x:List Int) (t:List (List Int)):rd_L1 (pre ++ x :: t) (pre.length:Int)=x:=getD_app _ _ _ _
theorem rdL4_app (pre:List (List S60)) (x:List S60) (t:List (List S60)):rd_L4 (pre ++ x :: t) (pre.length:Int)=x:=getD_app _ _ _ _
theorem rdT60_app (pre:List S60) (x:S60) (t:List S60):rd_T60 (pre ++ x :: t) (pre.length:Int)=x:=getD_app _ _ _ _
theorem wsucc {n:Nat} (h:n < 4611686018427387904):wrap64 ((n:Int) + 1)=((n + 1:Nat):Int):=by rw [wrap_id (by omega) (by omega)];omega
theorem len_snoc {α:Type} (pre:List α) (x:α):pre.length + 1=(pre ++ [x]).length:=by simp
theorem app_snoc {α:Type} (pre:List α) (x:α) (t:List α):pre ++ x :: t=(pre ++ [x]) ++ t:=by simp
theorem lt_app {α:Type} (pre:List α) (x:α) (t:List α):(pre.length:Int) < ((pre ++ x :: t).length:Int):=by simp;omega
theorem set_app {α:Type} (pre:List α) (x y:α) (t:List α):(pre ++ x :: t).set ((pre.length:Int)).toNat y=pre ++ y :: t:=by simp
def inB (m:Int) (v:List Int):Prop:=∀ x,x ∈ v → 0 ≤ x∧x ≤ m
theorem inB.nn {m:Int} {v:List Int} (h:inB m v):nnV v:=fun x hx=>(h x hx).1
theorem outside_iff (v:List Int) (m:Int):(v.any fun x=>decide (x < 0) || decide (m < x))=true ↔ ¬ inB m v:=by
  rw [List.any_eq_true]
  constructor
  · rintro ⟨x,hx,h⟩ hi
    have:=hi x hx
    simp at h
    omega
  · intro h
    apply Classical.byContradiction
    intro h2
    refine h (fun x hx=>?_)
    apply Classical.byContradiction
    intro h3
    exact h2 ⟨x,hx,by simp;omega⟩
theorem less_go (m:Int):∀ (v2 w2 v1 w1 o1:List Int),v1.length=w1.length → o1.length=v1.length → v2.length=w2.length → inB 1000000 v2 → inB 1000000 w2 → (v1 ++ v2).length < 1000000 →
    Ev (fun k=>count_less.l0 k (v1 ++ v2) (w1 ++ w2) (o1 ++ List.replicate v2.length 0) ((v1 ++ v2).length:Int) (v1.length:Int)) (o1 ++ subV v2 w2,!((o1 ++ subV v2 w2).any fun x=>decide (x < 0) || decide (60 < x)))
  | [],[],v1,w1,o1,h1,h2,h3,b1,b2,hl=>by
    refine Ev.succ ?_
    simp only [count_less.l0]
    refine Ev.neg (by simp) ?_
    refine Ev.bindc (x:=(o1 ++ subV [] []).any fun x=>decide (x < 0) || decide (60 < x)) (by simp [count_outside.f,subV]) ?_
    simp [subV]
    exact Ev.now _
  | x :: v2,y :: w2,v1,w1,o1,h1,h2,h3,b1,b2,hl=>by
    have hlen:(v1 ++ x :: v2).length=v1.length + (v2.length + 1):=by simp
    have ih:=less_go m v2 w2 (v1 ++ [x]) (w1 ++ [y]) (o1 ++ [x - y]) (by simp [h1]) (by simp [h2]) (by simpa using h3) (fun z hz=>b1 z (by simp [hz])) (fun z hz=>b2 z (by simp [hz])) (by simp at hl ⊢;omega)
    have bx:=b1 x (by simp)
    have by':=b2 y (by simp)
    refine Ev.succ ?_
    simp only [count_less.l0]
    refine Ev.pos (by simp;omega) (Ev.pos (by omega) (Ev.pos (by simp;omega) (Ev.pos (by simp;omega) (Ev.pos (by simp;omega) ?_))))
    rw [rd_app v1 x v2,show (v1.length:Int)=(w1.length:Int) by omega,rd_app w1 y w2,← h1,wrap_id (by omega) (by omega),wsucc (by simp at hl;omega)]
    rw [← app_snoc,← app_snoc] at ih
    have e:(o1 ++ List.replicate (x :: v2).length 0).set ((v1.length:Int)).toNat (x - y)=o1 ++ [x - y] ++ List.replicate v2.length 0:=by
      rw [← h2,List.length_cons,List.replicate_succ,set_app];simp
    rw [e,len_snoc v1 x,subV]
    rw [List.append_assoc o1 [x - y] (subV v2 w2)] at ih
    exact ih
theorem less_ev {v w:List Int} (h:v.length=w.length) (hv:inB 1000000 v) (hw:inB 1000000 w) (hl:v.length < 1000000):Ev (fun k=>count_less.f k v w) (subV v w,!((subV v w).any fun x=>decide (x < 0) || decide (60 < x))):=by
  have:=less_go 0 v w [] [] [] rfl rfl h hv hw hl
  simp only [List.nil_append,List.length_nil] at this
  unfold count_less.f
  refine Ev.pos (by omega) (Ev.pos (by omega) ?_)
  rw [Int.toNat_natCast]
  exact this
theorem less_ok {m:Int} {v w:List Int} (h:v.length=w.length) (hv:inB 60 v) (hw:inB 1000000 w) (hl:v.length < 1000000):Ev (fun k=>count_less.f k v w) (subV v w,decide (nnV (subV v w))):=by
  have h1:=less_ev h (fun x hx=>⟨(hv x hx).1,by have:=hv x hx;omega⟩) hw hl
  have le60:∀ (v w:List Int),inB 60 v → nnV w → ∀ x,x ∈ subV v w → x ≤ 60:=fun v=>by
    induction v with
    | nil=>intro w _ _ x hx;simp [subV] at hx
    | cons a v ih =>
      intro w hv hw x hx
      match w,hw,hx with
      | b :: w,hw,hx =>
        rw [subV] at hx
        rcases List.mem_cons.1 hx with rfl|hx
        · have:=hv a (by simp)
          have:=hw b (by simp)
          omega
        · exact ih w (fun z hz=>hv z (by simp [hz])) (fun z hz=>hw z (by simp [hz])) x hx
  have e:(!((subV v w).any fun x=>decide (x < 0) || decide (60 < x)))=decide (nnV (subV v w)):=by
    rw [Bool.eq_iff_iff,decide_eq_true_iff,Bool.not_eq_true',← Bool.not_eq_true,outside_iff]
    constructor
    · intro h x hx
      exact (Classical.byContradiction h x hx).1
    · exact fun h hn=>hn (fun x hx=>⟨h x hx,le60 v w hv hw.nn x hx⟩)
  rw [← e]
  exact h1
theorem refTotal_go:∀ (v2 v1:List Int) (s:Int),inB 1000000 v2 → 0 ≤ s → s ≤ 1000000 * v1.length → (v1 ++ v2).length < 1000000 → Ev (fun k=>bellpullref05_Total.l0 k (v1 ++ v2) s (v1.length:Int)) (s + v2.sum)
  | [],v1,s,_,h0,h1,hl=>by
    refine Ev.succ ?_
    simp only [bellpullref05_Total.l0]
    refine Ev.neg (by simp) ?_
    simp
    exact Ev.now _
  | x :: v2,v1,s,hb,h0,h1,hl=>by
    have bx:=hb x (by simp)
    have ih:=refTotal_go v2 (v1 ++ [x]) (s + x) (fun z hz=>hb z (by simp [hz])) (by omega) (by simp;omega) (by simp at hl ⊢;omega)
    rw [← app_snoc,← len_snoc] at ih
    refine Ev.succ ?_
    simp only [bellpullref05_Total.l0]
    refine Ev.pos (by simp;omega) (Ev.pos (by omega) ?_)
    have hl2:v1.length < 1000000:=by simp at hl;omega
    rw [rd_app,wrap_id (x:=s + x) (by omega) (by omega),wsucc (by omega),List.sum_cons,← Int.add_assoc]
    exact ih
theorem refTotal_ev {v:List Int} (hv:inB 1000000 v) (hl:v.length < 1000000):Ev (fun k=>bellpullref05_Total.f k v) v.sum:=by
  have:=refTotal_go v [] 0 hv (by omega) (by simp) hl
  simp only [List.nil_append,List.length_nil,Int.zero_add] at this
  exact this
end Go.Proofs.Ytkonljiembcdlaa.Pure
/- Has, of the program and of the reference, in plain Lean. -/
set_option linter.unusedVariables false
set_option linter.unusedSimpArgs false
namespace Go.Proofs.Ytkonljiembcdlaa.Pure
open Go.RowKit Go.Proofs.MyWords Go.Proofs.YtkonljiembcdlaaW.PrintWords Go.Proofs.YtkonljiembcdlaaW.PrintLast Go.Proofs.YtkonljiembcdlaaW.PrintMore Go.Proofs.Ytkonljiembcdlaa.PC Go.Proofs.Ytkonljiembcdlaa.Sem
def okV (d:Nat) (m:Int) (v:List Int):Prop:=v.length=d∧inB m v
theorem okV.mono {d:Nat} {m n:Int} {v:List Int} (h:okV d m v) (hm:m ≤ n):okV d n v:=⟨h.1,fun x hx=>⟨(h.2 x hx).1,by have:=h.2 x hx;omega⟩⟩
def okP (d:Nat) (ps:List (List Int)):Prop:=∀ p,p ∈ ps → okV d 1000000 p
theorem okP.okD {d:Nat} {ps:List (List Int)} (h:okP d ps):okD d ps:=fun p hp=>⟨(h p hp).1,(h p hp).2.nn⟩
theorem okP.tail {d:Nat} {p:List Int} {ps:List (List Int)} (h:okP d (p :: ps)):okP d ps:=fun q hq=>h q (by simp [hq])
theorem sub60 {d:Nat} {v w:List Int} (hv:okV d 60 v) (hw:okV d 1000000 w) (h:nnV (subV v w)):okV d 60 (subV v w):=by
  refine ⟨subV_len hv.1 hw.1,fun x hx=>⟨h x hx,?_⟩⟩
  have:∀ (v w:List Int),inB 60 v → nnV w → ∀ x,x ∈ subV v w → x ≤ 60:=fun v=>by
    induction v with
    | nil=>intro w _ _ x hx;simp [subV] at hx
    | cons a v ih =>
      intro w hv hw x hx
      match w,hw,hx with
      | b :: w,hw,hx =>
        rw [subV] at hx
        rcases List.mem_cons.1 hx with rfl|hx
        · have:=hv a (by simp)
          have:=hw b (by simp)
          omega
        · exact ih w (fun z hz=>hv z (by simp [hz])) (fun z hz=>hw z (by simp [hz])) x hx
  exact this v w hv.2 hw.2.nn x hx
theorem zeroV_iff (v:List Int):zeroV v=true ↔ ∀ x,x ∈ v → x=0:=by
  unfold zeroV
  rw [Bool.not_eq_true',← Bool.not_eq_true,List.any_eq_true]
  constructor
  · intro h x hx
    apply Classical.byContradiction
    intro h2
    exact h ⟨x,hx,by simp [h2]⟩
  · rintro h ⟨x,hx,h2⟩
    rw [h x hx] at h2
    simp at h2
theorem zero_f (v:List Int):count_zero.f v=some (zeroV v):=rfl
theorem pos_of_nz {p:List Int} (hn:nnV p) (h:zeroV p=false):0 < p.sum:=by
  have:=sum_nn hn
  rcases Int.lt_or_eq_of_le this with h1|h1
  · exact h1
  · have:=(zeroV_iff p).2 (zero_of_sum hn h1.symm)
    rw [h] at this
    cases this
theorem made_nil (v:List Int):Ev (fun k=>count_made.f k v []) (zeroV v):=by
  refine Ev.succ ?_
  simp only [count_made.f,zero_f,Option.bind_some]
  cases h:zeroV v with
  | true=>exact Ev.pos rfl (Ev.now _)
  | false=>exact Ev.neg (by simp) (Ev.pos (by simp) (Ev.now _))
theorem made_ev (d:Nat) (hd:d < 1000000):∀ (ps:List (List Int)),okP d ps → (∀ p,p ∈ ps → zeroV p=false) → ∀ v,okV d 60 v → ∃ b,Ev (fun k=>count_made.f k v ps) b∧(b=true ↔ Comb d ps v)
  | [],_,_,v,hv=>⟨_,made_nil v,by
      rw [zeroV_iff,comb_nil]
      exact ⟨eq_zeroN hv.1,fun h x hx=>by rw [h] at hx;exact zeroN_mem hx⟩⟩
  | p :: ps,hp,hz,v,hv=>by
    have IH:=made_ev d hd ps hp.tail (fun q hq=>hz q (by simp [hq]))
    have pp:0 < p.sum:=pos_of_nz (hp p (by simp)).2.nn (hz p (by simp))
    have loop:∀ (n:Nat) (v:List Int),v.sum.toNat < n → okV d 60 v → ∃ b,Ev (fun k=>count_made.l0 k v (p :: ps) true) b∧(b=true ↔ Comb d (p :: ps) v):=fun n=>by
      induction n with
      | zero=>intro v h _;omega
      | succ n ih =>
        intro v hn hv
        have hl:v.length=p.length:=hv.1.trans (hp p (by simp)).1.symm
        have hle:=less_ok (m:=0) hl hv.2 (hp p (by simp)).2 (by rw [hv.1];exact hd)
        obtain ⟨b1,e1,i1⟩:=IH v hv
        have hc:=comb_sub hp.okD (v:=v) hv.1
        cases b1 with
        | true =>
          refine ⟨true,?_,⟨fun _=>hc.2 (.inl (i1.1 rfl)),fun _=>rfl⟩⟩
          refine Ev.succ ?_
          simp only [count_made.l0]
          refine Ev.pos trivial (Ev.pos (by simp <;> omega) (Ev.bind e1 (Ev.pos rfl (Ev.now _))))
        | false =>
          have hno:¬ Comb d ps v:=fun h=>by have:=i1.2 h;cases this
          have rd0:rd_L1 (p :: ps) 0=p:=rfl
          have start:∀ b,Ev (fun k=>count_made.l0 k (subV v p) (p :: ps) (decide (nnV (subV v p)))) b → Ev (fun k=>count_made.l0 k v (p :: ps) true) b:=fun b hb=>by
            refine Ev.succ ?_
            simp only [count_made.l0]
            refine Ev.pos trivial (Ev.pos (by simp <;> omega) (Ev.bind e1 (Ev.neg (by simp) (Ev.pos (by simp <;> omega) ?_))))
            rw [rd0]
            exact Ev.bind hle hb
          by_cases hnn:nnV (subV v p)
          · have hs:=sub60 hv (hp p (by simp)) hnn
            have hsum:=sum_subV hl
            have:=sum_nn hs.2.nn
            have:=sum_nn hv.2.nn
            obtain ⟨b,e2,i2⟩:=ih (subV v p) (by omega) hs
            refine ⟨b,start b (by rw [decide_eq_true hnn];exact e2),?_⟩
            rw [i2,hc]
            exact ⟨.inr,fun h=>h.resolve_left hno⟩
          · refine ⟨false,start false (by rw [decide_eq_false hnn];refine Ev.succ ?_;simp only [count_made.l0];exact Ev.neg (by simp) (Ev.now _)),⟨fun h=>(by cases h),fun h=>?_⟩⟩
            rcases hc.1 h with h|h
            · exact absurd h hno
            · exact absurd (h.nn hp.okD) hnn
    cases hzv:zeroV v with
    | true =>
      have:v=zeroN d:=eq_zeroN hv.1 ((zeroV_iff v).1 hzv)
      refine ⟨true,?_,⟨fun _=>this ▸ .zero,fun _=>rfl⟩⟩
      refine Ev.succ ?_
      simp only [count_made.f,zero_f,Option.bind_some,hzv]
      exact Ev.pos trivial (Ev.now _)
    | false =>
      obtain ⟨b,e,i⟩:=loop (v.sum.toNat + 1) v (by omega) hv
      refine ⟨b,?_,i⟩
      refine Ev.succ ?_
      simp only [count_made.f,zero_f,Option.bind_some,hzv]
      exact Ev.neg (by simp) (Ev.neg (by simp <;> omega) e)
def InL (d:Nat) (b:List Int) (ps:List (List Int)) (v:List Int):Prop:=∃ w,Comb d ps w∧v=addV b w
def InS (d:Nat) (set:List S60) (v:List Int):Prop:=∃ l,l ∈ set∧InL d l.f0 l.f1 v
def okL (d:Nat) (l:S60):Prop:=okV d 1000000 l.f0∧okP d l.f1∧l.f1.length ≤ 1000000
theorem inL_sub {d:Nat} {b:List Int} {ps:List (List Int)} (hb:okV d 1000000 b) (hp:okP d ps) {v:List Int} (hv:v.length=d):InL d b ps v ↔ nnV (subV v b)∧Comb d ps (subV v b):=by
  constructor
  · rintro ⟨w,hw,rfl⟩
    have hl:=hw.len hp.okD
    rw [addV_comm,addV_sub (hl.trans hb.1.symm)]
    exact ⟨hw.nn hp.okD,hw⟩
  · rintro ⟨_,h⟩
    exact ⟨_,h,by rw [addV_comm,subV_add (hv.trans hb.1.symm)]⟩
theorem in_ev {d:Nat} (hd:d < 1000000) {l:S60} (hl:okL d l) {v:List Int} (hv:okV d 60 v):∃ b,Ev (fun k=>count_in.f k l.f0 l.f1 v) b∧(b=true ↔ InL d l.f0 l.f1 v):=by
  obtain ⟨hb,hp,hn⟩:=hl
  have hle:=less_ok (m:=0) (hv.1.trans hb.1.symm) hv.2 hb.2 (by rw [hv.1];exact hd)
  have hi:=inL_sub hb hp hv.1
  have start:∀ b,Ev (fun k=>if decide (nnV (subV v l.f0))=true then count_made.f k (subV v l.f0) (l.f1.filter fun x=>!zeroV x) else some false) b → Ev (fun k=>count_in.f k l.f0 l.f1 v) b:=fun b h=>by
    unfold count_in.f
    exact Ev.pos (by omega) (Ev.bind hle h)
  by_cases hnn:nnV (subV v l.f0)
  · have hz:∀ p,p ∈ (l.f1.filter fun x=>!zeroV x) → zeroV p=false:=fun p h=>by simpa using (List.mem_filter.1 h).2
    obtain ⟨b,e,i⟩:=made_ev d hd (l.f1.filter fun x=>!zeroV x) (fun p h=>hp p (List.mem_filter.1 h).1) hz _ (sub60 hv hb hnn)
    refine ⟨b,start b (Ev.pos (decide_eq_true hnn) e),?_⟩
    rw [i,hi,comb_filter hp.okD (fun x=>!zeroV x) (fun p h hf=>eq_zeroN (hp p h).1 ((zeroV_iff p).1 (by simpa using hf)))]
    exact ⟨fun h=>⟨hnn,h⟩,fun h=>h.2⟩
  · exact ⟨false,start false (Ev.neg (by simpa using hnn) (Ev.now _)),⟨fun h=>(by cases h),fun h=>absurd (hi.1 h).1 hnn⟩⟩
theorem has_go {d:Nat} (hd:d < 1000000) {v:List Int} (hv:okV d 60 v):∀ set:List S60,(∀ l,l ∈ set → okL d l) → ∃ b,Ev (fun k=>count_has.g k v set) b∧(b=true ↔ InS d set v)
  | [],_=>⟨false,Ev.now _,⟨fun h=>(by cases h),fun ⟨l,h,_⟩=>by simp at h⟩⟩
  | l :: set,h=>by
    obtain ⟨b,e,i⟩:=in_ev hd (h l (by simp)) hv
    obtain ⟨c,f,j⟩:=has_go hd hv set (fun x hx=>h x (by simp [hx]))
    refine ⟨b || c,Ev.bind e (Ev.bind f (Ev.now _)),?_⟩
    rw [Bool.or_eq_true,i,j]
    constructor
    · rintro (h|⟨x,hx,h⟩)
      · exact ⟨l,by simp,h⟩
      · exact ⟨x,by simp [hx],h⟩
    · rintro ⟨x,hx,h2⟩
      rcases List.mem_cons.1 hx with rfl|hx
      · exact .inl h2
      · exact .inr ⟨x,hx,h2⟩
theorem has_ev {d:Nat} (hd:d < 1000000) {v:List Int} (hv:okV d 60 v) {set:List S60} (h:∀ l,l ∈ set → okL d l):∃ b,Ev (fun k=>count_has.f k set v) b∧(b=true ↔ InS d set v):=has_go hd hv set h
end Go.Proofs.Ytkonljiembcdlaa.Pure
/- Sums of sets of vectors, and all sums, in plain Lean. -/
set_option linter.unusedVariables false
namespace Go.Proofs.Ytkonljiembcdlaa.Sem
open Go.Proofs.Ytkonljiembcdlaa.PC Go.Proofs.Ytkonljiembcdlaa.Pure
theorem okD_app {d:Nat} {p q:List Vec} (hp:okD d p) (hq:okD d q):okD d (p ++ q):=fun x hx=>(List.mem_append.1 hx).elim (hp x) (hq x)
theorem comb_app {d:Nat} {p q:List Vec} (hp:okD d p) (hq:okD d q) {v:Vec}:Comb d (p ++ q) v ↔ ∃ u w,Comb d p u∧Comb d q w∧v=addV u w:=by
  constructor
  · intro h
    induction h with
    | zero=>exact ⟨_,_,.zero,.zero,(addV_zero (zeroN_len d)).symm⟩
    | @add x y h1 _ ih =>
      obtain ⟨u,w,hu,hw,rfl⟩:=ih
      rcases List.mem_append.1 h1 with h1|h1
      · exact ⟨addV u x,w,.add h1 hu,hw,addV_swap _ _ _⟩
      · exact ⟨u,addV w x,hu,.add h1 hw,addV_assoc _ _ _⟩
  · rintro ⟨u,w,hu,hw,rfl⟩
    exact Comb.plus (okD_app hp hq) (hu.mono (fun x hx=>List.mem_append_left _ hx)) (hw.mono (fun x hx=>List.mem_append_right _ hx))
def sumE (a b:S60):S60:=⟨addV a.f0 b.f0,a.f1 ++ b.f1⟩
def sumL (x y:List S60):List S60:=x.flatMap fun a=>y.map (sumE a)
theorem inL_sum {d:Nat} {a b:S60} (ha:okL d a) (hb:okL d b) {v:Vec}:InL d (sumE a b).f0 (sumE a b).f1 v ↔ ∃ u w,InL d a.f0 a.f1 u∧InL d b.f0 b.f1 w∧v=addV u w:=by
  unfold InL sumE
  simp only
  constructor
  · rintro ⟨z,hz,rfl⟩
    obtain ⟨u,w,hu,hw,rfl⟩:=(comb_app ha.2.1.okD hb.2.1.okD).1 hz
    refine ⟨_,_,⟨u,hu,rfl⟩,⟨w,hw,rfl⟩,?_⟩
    rw [addV_assoc,addV_assoc,← addV_assoc b.f0 u w,addV_comm b.f0 u,addV_assoc u]
  · rintro ⟨_,_,⟨u,hu,rfl⟩,⟨w,hw,rfl⟩,rfl⟩
    refine ⟨addV u w,(comb_app ha.2.1.okD hb.2.1.okD).2 ⟨u,w,hu,hw,rfl⟩,?_⟩
    rw [addV_assoc,addV_assoc,← addV_assoc b.f0 u w,addV_comm b.f0 u,addV_assoc u]
theorem inS_sum {d:Nat} {x y:List S60} (hx:∀ l,l ∈ x → okL d l) (hy:∀ l,l ∈ y → okL d l) {v:Vec}:InS d (sumL x y) v ↔ ∃ u w,InS d x u∧InS d y w∧v=addV u w:=by
  unfold sumL
  constructor
  · rintro ⟨l,hl,h⟩
    obtain ⟨a,ha,hl⟩:=List.mem_flatMap.1 hl
    obtain ⟨b,hb,rfl⟩:=List.mem_map.1 hl
    obtain ⟨u,w,h1,h2,e⟩:=(inL_sum (hx a ha) (hy b hb)).1 h
    exact ⟨u,w,⟨a,ha,h1⟩,⟨b,hb,h2⟩,e⟩
  · rintro ⟨u,w,⟨a,ha,h1⟩,⟨b,hb,h2⟩,e⟩
    exact ⟨sumE a b,List.mem_flatMap.2 ⟨a,ha,List.mem_map.2 ⟨b,hb,rfl⟩⟩,(inL_sum (hx a ha) (hy b hb)).2 ⟨u,w,h1,h2,e⟩⟩
theorem InL.len {d:Nat} {l:S60} (h:okL d l) {v:Vec} (hv:InL d l.f0 l.f1 v):v.length=d∧nnV v:=by
  obtain ⟨w,hw,rfl⟩:=hv
  exact ⟨addV_len h.1.1 (hw.len h.2.1.okD),nn_addV h.1.2.nn (hw.nn h.2.1.okD)⟩
theorem InS.len {d:Nat} {x:List S60} (hx:∀ l,l ∈ x → okL d l) {v:Vec} (hv:InS d x v):v.length=d∧nnV v:=by
  obtain ⟨l,hl,h⟩:=hv
  exact InL.len (hx l hl) h
inductive StarV (d:Nat) (P:Vec → Prop):Vec → Prop
  | zero:StarV d P (zeroN d)
  | add {u w}:P u → StarV d P w → StarV d P (addV w u)
theorem StarV.mono {d:Nat} {P Q:Vec → Prop} (h:∀ v,P v → Q v) {v:Vec} (hv:StarV d P v):StarV d Q v:=by
  induction hv with
  | zero=>exact .zero
  | add h1 _ ih=>exact .add (h _ h1) ih
theorem StarV.len {d:Nat} {P:Vec → Prop} (h:∀ v,P v → v.length=d) {v:Vec} (hv:StarV d P v):v.length=d:=by
  induction hv with
  | zero=>exact zeroN_len d
  | add h1 _ ih=>exact addV_len ih (h _ h1)
theorem StarV.plus {d:Nat} {P:Vec → Prop} (h:∀ v,P v → v.length=d) {v w:Vec} (hv:StarV d P v) (hw:StarV d P w):StarV d P (addV v w):=by
  induction hw with
  | zero=>rw [addV_zero (hv.len h)];exact hv
  | add h1 _ ih=>rw [← addV_assoc];exact .add h1 ih
theorem StarV.one {d:Nat} {P:Vec → Prop} {v:Vec} (hl:v.length=d) (h:P v):StarV d P v:=by
  have:=StarV.add (d:=d) h .zero
  rwa [zero_addV hl] at this
def sumB (d:Nat):List S60 → Vec
  | []=>zeroN d
  | a :: t=>addV a.f0 (sumB d t)
def starOf (d:Nat) (ch:List S60):S60:=⟨sumB d ch,ch.flatMap fun a=>a.f0 :: a.f1⟩
section
variable {d:Nat}
theorem sumB_len:∀ {ch:List S60},(∀ a,a ∈ ch → okL d a) → (sumB d ch).length=d∧nnV (sumB d ch)
  | [],_=>⟨zeroN_len d,nn_zeroN d⟩
  | a :: t,h=>by
    have ih:=sumB_len (ch:=t) (fun x hx=>h x (by simp [hx]))
    have ha:=(h a (by simp)).1
    exact ⟨addV_len ha.1 ih.1,nn_addV ha.2.nn ih.2⟩
theorem okD_star {ch:List S60} (h:∀ a,a ∈ ch → okL d a):okD d (ch.flatMap fun a=>a.f0 :: a.f1):=fun p hp=>by
  obtain ⟨a,ha,hp⟩:=List.mem_flatMap.1 hp
  have:=h a ha
  rcases List.mem_cons.1 hp with rfl|hp
  · exact ⟨this.1.1,this.1.2.nn⟩
  · exact this.2.1.okD p hp
theorem comb_split {b:Vec} {ps:List Vec} (hb:b.length=d∧nnV b) (hp:okD d ps) {w:Vec} (h:Comb d (b :: ps) w):∃ u s,Comb d ps u∧StarV d (InL d b ps) s∧w=addV u s:=by
  induction h with
  | zero=>exact ⟨_,_,.zero,.zero,(addV_zero (zeroN_len d)).symm⟩
  | @add p w h1 _ ih =>
    obtain ⟨u,s,hu,hs,rfl⟩:=ih
    rcases List.mem_cons.1 h1 with rfl|h1
    · exact ⟨u,addV s p,hu,.add ⟨_,.zero,(addV_zero hb.1).symm⟩ hs,addV_assoc _ _ _⟩
    · exact ⟨addV u p,s,.add h1 hu,hs,addV_swap _ _ _⟩
theorem star_in {x:List S60} (hx:∀ a,a ∈ x → okL d a):∀ {ch:List S60},(∀ a,a ∈ ch → a ∈ x) → ∀ {v:Vec},InL d (starOf d ch).f0 (starOf d ch).f1 v → StarV d (InS d x) v:=by
  have hP:∀ v,InS d x v → v.length=d:=fun v h=>(InS.len hx h).1
  intro ch
  induction ch with
  | nil =>
    intro _ v h
    obtain ⟨w,hw,rfl⟩:=h
    have hw':Comb d [] w:=hw
    rw [comb_nil.1 hw']
    show StarV d (InS d x) (addV (zeroN d) (zeroN d))
    rw [addV_zero (zeroN_len d)]
    exact .zero
  | cons a t ih =>
    intro hch v h
    obtain ⟨w,hw,rfl⟩:=h
    have ha:=hx a (hch a (by simp))
    have ht:∀ b,b ∈ t → okL d b:=fun b hb=>hx b (hch b (by simp [hb]))
    have hw':Comb d ((a.f0 :: a.f1) ++ t.flatMap fun a=>a.f0 :: a.f1) w:=hw
    have oa:okD d (a.f0 :: a.f1):=fun p hp=>by
      rcases List.mem_cons.1 hp with rfl|hp
      · exact ⟨ha.1.1,ha.1.2.nn⟩
      · exact ha.2.1.okD p hp
    obtain ⟨w1,w2,h1,h2,rfl⟩:=(comb_app oa (okD_star ht)).1 hw'
    obtain ⟨u,s,hu,hs,rfl⟩:=comb_split ⟨ha.1.1,ha.1.2.nn⟩ ha.2.1.okD h1
    have e:addV (starOf d (a :: t)).f0 (addV (addV u s) w2)=addV (addV (addV (sumB d t) w2) s) (addV a.f0 u):=by
      show addV (addV a.f0 (sumB d t)) (addV (addV u s) w2)=_
      rw [addV_assoc a.f0,addV_comm (addV (addV (sumB d t) w2) s),addV_assoc a.f0 u]
      congr 1
      rw [addV_assoc u s w2,← addV_assoc (sumB d t) u,addV_comm (sumB d t) u,addV_assoc u]
      congr 1
      rw [addV_comm s w2,addV_assoc]
    rw [e]
    have hin:InS d x (addV a.f0 u):=⟨a,hch a (by simp),u,hu,rfl⟩
    have hrest:StarV d (InS d x) (addV (sumB d t) w2):=ih (fun b hb=>hch b (by simp [hb])) ⟨w2,h2,rfl⟩
    exact .add hin (hrest.plus hP (hs.mono (fun v hv=>⟨a,hch a (by simp),hv⟩)))
theorem sumB_perm {c1 c2:List S60} (h:c1.Perm c2):sumB d c1=sumB d c2:=by
  induction h with
  | nil=>rfl
  | cons a _ ih=>rw [sumB,sumB,ih]
  | swap a b l=>rw [sumB,sumB,sumB,sumB,← addV_assoc,← addV_assoc,addV_comm b.f0]
  | trans _ _ h1 h2=>exact h1.trans h2
theorem ins {ch x:List S60} (h:ch.Sublist x) (a:S60) (ha:a ∈ x):a ∈ ch ∨ ∃ c2:List S60,c2.Sublist x∧c2.Perm (a :: ch):=by
  induction h with
  | slnil=>simp at ha
  | @cons c x b hs ih =>
    rcases List.mem_cons.1 ha with rfl|ha
    · exact .inr ⟨a :: c,hs.cons_cons a,List.Perm.refl _⟩
    · rcases ih ha with h|⟨c2,h1,h2⟩
      · exact .inl h
      · exact .inr ⟨c2,h1.cons b,h2⟩
  | @cons_cons c x b hs ih =>
    rcases List.mem_cons.1 ha with rfl|ha
    · exact .inl (by simp)
    · rcases ih ha with h|⟨c2,h1,h2⟩
      · exact .inl (by simp [h])
      · exact .inr ⟨b :: c2,h1.cons_cons b,(h2.cons b).trans (List.Perm.swap a b c)⟩
theorem star_out {x:List S60} (hx:∀ a,a ∈ x → okL d a) {v:Vec} (h:StarV d (InS d x) v):∃ ch:List S60,ch.Sublist x∧InL d (starOf d ch).f0 (starOf d ch).f1 v:=by
  induction h with
  | zero=>exact ⟨[],List.nil_sublist x,_,.zero,(addV_zero (zeroN_len d)).symm⟩
  | @add u w h1 _ ih =>
    obtain ⟨ch,hs,z,hz,rfl⟩:=ih
    obtain ⟨a,ha,t,ht,rfl⟩:=h1
    have hch:∀ b,b ∈ ch → okL d b:=fun b hb=>hx b (hs.subset hb)
    have hz':Comb d (ch.flatMap fun a=>a.f0 :: a.f1) z:=hz
    rcases ins hs a ha with hin|⟨c2,h2,hp⟩
    · have o:=okD_star hch
      have m:∀ p,p ∈ a.f0 :: a.f1 → p ∈ ch.flatMap fun a=>a.f0 :: a.f1:=fun p hp=>List.mem_flatMap.2 ⟨a,hin,hp⟩
      refine ⟨ch,hs,addV z (addV a.f0 t),Comb.plus o hz' (Comb.plus o (Comb.one o (m _ (by simp))) (ht.mono (fun p hp=>m p (by simp [hp])))),?_⟩
      rw [addV_assoc]
    · have hc2:∀ b,b ∈ c2 → okL d b:=fun b hb=>hx b (h2.subset hb)
      have o:=okD_star hc2
      have m:∀ b,b ∈ a :: ch → ∀ p,p ∈ b.f0 :: b.f1 → p ∈ c2.flatMap fun a=>a.f0 :: a.f1:=fun b hb p hp'=>List.mem_flatMap.2 ⟨b,hp.mem_iff.2 hb,hp'⟩
      refine ⟨c2,h2,addV z t,Comb.plus o (hz'.mono (fun p hp'=>?_)) (ht.mono (fun p hp'=>m a (by simp) p (by simp [hp']))),?_⟩
      · obtain ⟨b,hb,hp'⟩:=List.mem_flatMap.1 hp'
        exact m b (by simp [hb]) p hp'
      · show addV (addV (sumB d ch) z) (addV a.f0 t)=addV (sumB d c2) (addV z t)
        rw [sumB_perm hp,sumB,addV_comm a.f0 (sumB d ch),addV_assoc,addV_assoc]
        congr 1
        rw [← addV_assoc z,addV_comm z a.f0,addV_assoc]
end
def pickN:Nat → List S60 → List S60
  | _,[]=>[]
  | c,a :: t=>if c % 2=1 then a :: pickN (c / 2) t else pickN (c / 2) t
theorem pick_sub:∀ (x:List S60) (c:Nat),(pickN c x).Sublist x
  | [],c=>List.nil_sublist _
  | a :: t,c=>by
    rw [pickN]
    split
    · exact (pick_sub t (c / 2)).cons_cons a
    · exact (pick_sub t (c / 2)).cons a
theorem sub_pick {ch x:List S60} (h:ch.Sublist x):∃ c,c < 2 ^ x.length∧pickN c x=ch:=by
  induction h with
  | slnil=>exact ⟨0,by simp,rfl⟩
  | @cons c x b hs ih =>
    obtain ⟨n,h1,h2⟩:=ih
    refine ⟨2 * n,by rw [List.length_cons,Nat.pow_succ];omega,?_⟩
    rw [pickN,if_neg (by omega),show 2 * n / 2=n by omega,h2]
  | @cons_cons c x b hs ih =>
    obtain ⟨n,h1,h2⟩:=ih
    refine ⟨2 * n + 1,by rw [List.length_cons,Nat.pow_succ];omega,?_⟩
    rw [pickN,if_pos (by omega),show (2 * n + 1) / 2=n by omega,h2]
theorem pick_zero:∀ x:List S60,pickN 0 x=[]
  | []=>rfl
  | a :: t=>by rw [pickN,if_neg (by decide)];exact pick_zero t
def starL (d:Nat) (x:List S60):List S60:=(List.range (2 ^ x.length)).map fun c=>starOf d (pickN c x)
theorem inS_star {d:Nat} {x:List S60} (hx:∀ a,a ∈ x → okL d a) {v:Vec}:InS d (starL d x) v ↔ StarV d (InS d x) v:=by
  constructor
  · rintro ⟨l,hl,h⟩
    obtain ⟨c,_,rfl⟩:=List.mem_map.1 hl
    exact star_in hx (fun a ha=>(pick_sub x c).subset ha) h
  · intro h
    obtain ⟨ch,hs,hi⟩:=star_out hx h
    obtain ⟨c,hc,rfl⟩:=sub_pick hs
    exact ⟨_,List.mem_map.2 ⟨c,List.mem_range.2 hc,rfl⟩,hi⟩
end Go.Proofs.Ytkonljiembcdlaa.Sem
namespace Go.Proofs.Ytkonljiembcdlaa.PC
open Go.Proofs.MyWords Go.RowKit Go.Proofs.YtkonljiembcdlaaW.PrintWords Go.Proofs.YtkonljiembcdlaaW.PrintLast Go.Proofs.YtkonljiembcdlaaW.PrintMore
attribute [local go_sem] max2_int min2_int max_two min_two max_three min_three max_four min_four   -- for this text's walks alone
set_option linter.unusedVariables false
set_option linter.unusedSimpArgs false
attribute [local go_sem] eqGuard_slices eqlnil23 neqnil23 eqlnil58 neqnil58
def bellpullref01_In.f (a0:Int) (a1:Int) (a2:Int):Option (Bool):=if a0 ≥ a1 then (some (decide (a0 ≤ a2))) else (some false)
end Go.Proofs.Ytkonljiembcdlaa.PC
namespace Go.Proofs.Ytkonljiembcdlaa.PC
open Go.Proofs.MyWords Go.RowKit Go.Proofs.YtkonljiembcdlaaW.PrintWords Go.Proofs.YtkonljiembcdlaaW.PrintLast Go.Proofs.YtkonljiembcdlaaW.PrintMore
attribute [local go_sem] max2_int min2_int max_two min_two max_three min_three max_four min_four   -- for this text's walks alone
set_option linter.unusedVariables false
set_option linter.unusedSimpArgs false
attribute [local go_sem] eqGuard_slices eqlnil23 neqnil23 eqlnil58 neqnil58
def bellpullref05_Long.l0:Nat → List (S60) → Int → Option (Bool)
  | 0,_,_=>none
  | k + 1,x0,x3=>if x3 < (x0.length:Int) then (if 0 ≤ x3 then (if (((rd_T60 x0 x3).f1).length:Int) > 4 then (some true) else (bellpullref05_Long.l0 k x0 (wrap64 (x3 + 1)))) else (none)) else (some (decide ((x0.length:Int) > 8)))
def bellpullref05_Long.f (k:Nat) (l0:List (S60)):Option (Bool):=bellpullref05_Long.l0 k l0 0
theorem bellpullref05_Long.mono_l:∀ k,(∀ y0 y1,LeO (bellpullref05_Long.l0 k y0 y1) (bellpullref05_Long.l0 (k + 1) y0 y1))
  | 0=>fun _ _ r h=>by simp [bellpullref05_Long.l0] at h
  | k + 1=>by
    have ih0:=bellpullref05_Long.mono_l k
    · intro y0 y1
      unfold bellpullref05_Long.l0
      with_reducible repeat' first|exact ih0 _ _|exact LeO.refl _|exact LeO.none _|refine LeO.ite ?_ ?_|refine LeO.bind ?_ (fun _=>?_)
theorem bellpullref05_Long.mono:∀ a0 k,LeO (bellpullref05_Long.f k a0) (bellpullref05_Long.f (k + 1) a0):=by
  intro a0 k
  have ih0:=bellpullref05_Long.mono_l k
  unfold bellpullref05_Long.f
  with_reducible repeat' first|exact ih0 _ _|exact LeO.refl _|exact LeO.none _|refine LeO.ite ?_ ?_|refine LeO.bind ?_ (fun _=>?_)
end Go.Proofs.Ytkonljiembcdlaa.PC
namespace Go.Proofs.Ytkonljiembcdlaa.PC
open Go.Proofs.MyWords Go.RowKit Go.Proofs.YtkonljiembcdlaaW.PrintWords Go.Proofs.YtkonljiembcdlaaW.PrintLast Go.Proofs.YtkonljiembcdlaaW.PrintMore
attribute [local go_sem] max2_int min2_int max_two min_two max_three min_three max_four min_four   -- for this text's walks alone
set_option linter.unusedVariables false
set_option linter.unusedSimpArgs false
attribute [local go_sem] eqGuard_slices eqlnil23 neqnil23 eqlnil58 neqnil58
def bellpullref05_wide.l0:Nat → List Int → Int → Int → Option (Bool)
  | 0,_,_,_=>none
  | k + 1,x0,x1,x5=>if x5 < (x0.length:Int) then (if 0 ≤ x5 then ((bellpullref01_In.f (rd x0 x5) 0 x1).bind fun t386=>(if t386=true then (bellpullref05_wide.l0 k x0 x1 (wrap64 (x5 + 1))) else (some true))) else (none)) else (some false)
def bellpullref05_wide.f (k:Nat) (l0:List Int) (a1:Int):Option (Bool):=bellpullref05_wide.l0 k l0 a1 0
theorem bellpullref05_wide.mono_l:∀ k,(∀ y0 y1 y2,LeO (bellpullref05_wide.l0 k y0 y1 y2) (bellpullref05_wide.l0 (k + 1) y0 y1 y2))
  | 0=>fun _ _ _ r h=>by simp [bellpullref05_wide.l0] at h
  | k + 1=>by
    have ih0:=bellpullref05_wide.mono_l k
    · intro y0 y1 y2
      unfold bellpullref05_wide.l0
      with_reducible repeat' first|exact ih0 _ _ _|exact LeO.refl _|exact LeO.none _|refine LeO.ite ?_ ?_|refine LeO.bind ?_ (fun _=>?_)
theorem bellpullref05_wide.mono:∀ a0 a1 k,LeO (bellpullref05_wide.f k a0 a1) (bellpullref05_wide.f (k + 1) a0 a1):=by
  intro a0 a1 k
  have ih0:=bellpullref05_wide.mono_l k
  unfold bellpullref05_wide.f
  with_reducible repeat' first|exact ih0 _ _ _|exact LeO.refl _|exact LeO.none _|refine LeO.ite ?_ ?_|refine LeO.bind ?_ (fun _=>?_)
end Go.Proofs.Ytkonljiembcdlaa.PC
namespace Go.Proofs.Ytkonljiembcdlaa.PC
open Go.Proofs.MyWords Go.RowKit Go.Proofs.YtkonljiembcdlaaW.PrintWords Go.Proofs.YtkonljiembcdlaaW.PrintLast Go.Proofs.YtkonljiembcdlaaW.PrintMore
attribute [local go_sem] max2_int min2_int max_two min_two max_three min_three max_four min_four   -- for this text's walks alone
set_option linter.unusedVariables false
set_option linter.unusedSimpArgs false
attribute [local go_sem] eqGuard_slices eqlnil23 neqnil23 eqlnil58 neqnil58
mutual
def bellpullref05_Wide.l0:Nat → List (S60) → Int → Option (Bool)
  | 0,_,_=>none
  | k + 1,x1,x5=>if x5 < (x1.length:Int) then (if 0 ≤ x5 then ((bellpullref05_vectors.f ((rd_T60 x1 x5).f0) ((rd_T60 x1 x5).f1)).bind fun t389=>(bellpullref05_Wide.l1 k x1 x5 t389 0)) else (none)) else (some false)
def bellpullref05_Wide.l1:Nat → List (S60) → Int → List (List Int) → Int → Option (Bool)
  | 0,_,_,_,_=>none
  | k + 1,x1,x5,x6,x7=>if x7 < (x6.length:Int) then (if 0 ≤ x7 then ((bellpullref05_wide.f k (rd_L1 x6 x7) 20).bind fun t393=>(if t393=true then (some true) else (bellpullref05_Wide.l1 k x1 x5 x6 (wrap64 (x7 + 1))))) else (none)) else (bellpullref05_Wide.l0 k x1 (wrap64 (x5 + 1)))
end
def bellpullref05_Wide.f (k:Nat) (a0:Int) (l1:List (S60)):Option (Bool):=(bellpullref01_In.f a0 1 3).bind fun t387=>(if t387=true then (bellpullref05_Wide.l0 k l1 0) else (some true))
theorem bellpullref05_Wide.mono_l:∀ k,(∀ y0 y1,LeO (bellpullref05_Wide.l0 k y0 y1) (bellpullref05_Wide.l0 (k + 1) y0 y1))∧(∀ y0 y1 y2 y3,LeO (bellpullref05_Wide.l1 k y0 y1 y2 y3) (bellpullref05_Wide.l1 (k + 1) y0 y1 y2 y3))
  | 0=>⟨fun _ _ r h=>by simp [bellpullref05_Wide.l0] at h,fun _ _ _ _ r h=>by simp [bellpullref05_Wide.l1] at h⟩
  | k + 1=>by
    obtain ⟨ih0,ih1⟩:=bellpullref05_Wide.mono_l k
    refine ⟨?_,?_⟩
    · intro y0 y1
      unfold bellpullref05_Wide.l0
      with_reducible repeat' first|exact ih0 _ _|exact ih1 _ _ _ _|exact bellpullref05_wide.mono _ _ _|exact LeO.refl _|exact LeO.none _|refine LeO.ite ?_ ?_|refine LeO.bind ?_ (fun _=>?_)
    · intro y0 y1 y2 y3
      unfold bellpullref05_Wide.l1
      with_reducible repeat' first|exact ih0 _ _|exact ih1 _ _ _ _|exact bellpullref05_wide.mono _ _ _|exact LeO.refl _|exact LeO.none _|refine LeO.ite ?_ ?_|refine LeO.bind ?_ (fun _=>?_)
theorem bellpullref05_Wide.mono:∀ a0 a1 k,LeO (bellpullref05_Wide.f k a0 a1) (bellpullref05_Wide.f (k + 1) a0 a1):=by
  intro a0 a1 k
  obtain ⟨ih0,ih1⟩:=bellpullref05_Wide.mono_l k
  unfold bellpullref05_Wide.f
  with_reducible repeat' first|exact ih0 _ _|exact ih1 _ _ _ _|exact bellpullref05_wide.mono _ _ _|exact LeO.refl _|exact LeO.none _|refine LeO.ite ?_ ?_|refine LeO.bind ?_ (fun _=>?_)
end Go.Proofs.Ytkonljiembcdlaa.PC
namespace Go.Proofs.Ytkonljiembcdlaa.PC
open Go.Proofs.MyWords Go.RowKit Go.Proofs.YtkonljiembcdlaaW.PrintWords Go.Proofs.YtkonljiembcdlaaW.PrintLast Go.Proofs.YtkonljiembcdlaaW.PrintMore
attribute [local go_sem] max2_int min2_int max_two min_two max_three min_three max_four min_four   -- for this text's walks alone
set_option linter.unusedVariables false
set_option linter.unusedSimpArgs false
attribute [local go_sem] eqGuard_slices eqlnil23 neqnil23 eqlnil58 neqnil58
mutual
def bellpullref05_Odd.l0:Nat → Int → List (S60) → Int → Option (Bool)
  | 0,_,_,_=>none
  | k + 1,x0,x1,x5=>if x5 < (x1.length:Int) then (if 0 ≤ x5 then ((bellpullref05_vectors.f ((rd_T60 x1 x5).f0) ((rd_T60 x1 x5).f1)).bind fun t395=>(bellpullref05_Odd.l1 k x0 x1 x5 t395 0)) else (none)) else (some false)
def bellpullref05_Odd.l1:Nat → Int → List (S60) → Int → List (List Int) → Int → Option (Bool)
  | 0,_,_,_,_,_=>none
  | k + 1,x0,x1,x5,x6,x7=>if x7 < (x6.length:Int) then (if 0 ≤ x7 then (if ((rd_L1 x6 x7).length:Int)=x0 then (bellpullref05_Odd.l1 k x0 x1 x5 x6 (wrap64 (x7 + 1))) else (some true)) else (none)) else (bellpullref05_Odd.l0 k x0 x1 (wrap64 (x5 + 1)))
end
def bellpullref05_Odd.f (k:Nat) (a0:Int) (l1:List (S60)):Option (Bool):=bellpullref05_Odd.l0 k a0 l1 0
theorem bellpullref05_Odd.mono_l:∀ k,(∀ y0 y1 y2,LeO (bellpullref05_Odd.l0 k y0 y1 y2) (bellpullref05_Odd.l0 (k + 1) y0 y1 y2))∧(∀ y0 y1 y2 y3 y4,LeO (bellpullref05_Odd.l1 k y0 y1 y2 y3 y4) (bellpullref05_Odd.l1 (k + 1) y0 y1 y2 y3 y4))
  | 0=>⟨fun _ _ _ r h=>by simp [bellpullref05_Odd.l0] at h,fun _ _ _ _ _ r h=>by simp [bellpullref05_Odd.l1] at h⟩
  | k + 1=>by
    obtain ⟨ih0,ih1⟩:=bellpullref05_Odd.mono_l k
    refine ⟨?_,?_⟩
    · intro y0 y1 y2
      unfold bellpullref05_Odd.l0
      with_reducible repeat' first|exact ih0 _ _ _|exact ih1 _ _ _ _ _|exact LeO.refl _|exact LeO.none _|refine LeO.ite ?_ ?_|refine LeO.bind ?_ (fun _=>?_)
    · intro y0 y1 y2 y3 y4
      unfold bellpullref05_Odd.l1
      with_reducible repeat' first|exact ih0 _ _ _|exact ih1 _ _ _ _ _|exact LeO.refl _|exact LeO.none _|refine LeO.ite ?_ ?_|refine LeO.bind ?_ (fun _=>?_)
theorem bellpullref05_Odd.mono:∀ a0 a1 k,LeO (bellpullref05_Odd.f k a0 a1) (bellpullref05_Odd.f (k + 1) a0 a1):=by
  intro a0 a1 k
  obtain ⟨ih0,ih1⟩:=bellpullref05_Odd.mono_l k
  unfold bellpullref05_Odd.f
  with_reducible repeat' first|exact ih0 _ _ _|exact ih1 _ _ _ _ _|exact LeO.refl _|exact LeO.none _|refine LeO.ite ?_ ?_|refine LeO.bind ?_ (fun _=>?_)
end Go.Proofs.Ytkonljiembcdlaa.PC
namespace Go.Proofs.Ytkonljiembcdlaa.PC
open Go.Proofs.MyWords Go.RowKit Go.Proofs.YtkonljiembcdlaaW.PrintWords Go.Proofs.YtkonljiembcdlaaW.PrintLast Go.Proofs.YtkonljiembcdlaaW.PrintMore
attribute [local go_sem] max2_int min2_int max_two min_two max_three min_three max_four min_four   -- for this text's walks alone
set_option linter.unusedVariables false
set_option linter.unusedSimpArgs false
attribute [local go_sem] eqGuard_slices eqlnil23 neqnil23 eqlnil58 neqnil58
mutual
def bellpullref05_Check.l0:Nat → Int → List (List (S60)) → Int → Option (Int)
  | 0,_,_,_=>none
  | k + 1,x0,x1,x5=>if x5 < (x1.length:Int) then (if 0 ≤ x5 then ((bellpullref05_Long.f k (rd_L4 x1 x5)).bind fun t400=>(if t400=true then (some 3) else (bellpullref05_Check.l0 k x0 x1 (wrap64 (x5 + 1))))) else (none)) else (bellpullref05_Check.l1 k x0 x1 0)
def bellpullref05_Check.l1:Nat → Int → List (List (S60)) → Int → Option (Int)
  | 0,_,_,_=>none
  | k + 1,x0,x1,x6=>if x6 < (x1.length:Int) then (if 0 ≤ x6 then ((bellpullref05_Wide.f k x0 (rd_L4 x1 x6)).bind fun t402=>(if t402=true then (some 1) else (bellpullref05_Check.l1 k x0 x1 (wrap64 (x6 + 1))))) else (none)) else ((bellpullref01_In.f x0 1 3).bind fun t403=>(if t403=true then (bellpullref05_Check.l2 k x0 x1 0) else (some 1)))
def bellpullref05_Check.l2:Nat → Int → List (List (S60)) → Int → Option (Int)
  | 0,_,_,_=>none
  | k + 1,x0,x1,x7=>if x7 < (x1.length:Int) then (if 0 ≤ x7 then ((bellpullref05_Odd.f k x0 (rd_L4 x1 x7)).bind fun t405=>(if t405=true then (some 2) else (bellpullref05_Check.l2 k x0 x1 (wrap64 (x7 + 1))))) else (none)) else (some 0)
end
def bellpullref05_Check.f (k:Nat) (a0:Int) (l1:List (List (S60))):Option (Int):=bellpullref05_Check.l0 k a0 l1 0
theorem bellpullref05_Check.mono_l:∀ k,(∀ B C D,LeO (bellpullref05_Check.l0 k B C D) (bellpullref05_Check.l0 (k + 1) B C D))∧(∀ B C D,LeO (bellpullref05_Check.l1 k B C D) (bellpullref05_Check.l1 (k + 1) B C D))∧(∀ B C D,LeO (bellpullref05_Check.l2 k B C D) (bellpullref05_Check.l2 (k + 1) B C D))
  | 0=>⟨fun _ _ _ r h=>by simp [bellpullref05_Check.l0] at h,fun _ _ _ r h=>by simp [bellpullref05_Check.l1] at h,fun _ _ _ r h=>by simp [bellpullref05_Check.l2] at h⟩
  | k + 1=>by
    obtain ⟨E,F,G⟩:=bellpullref05_Check.mono_l k
    refine ⟨?_,?_,?_⟩
    · intro B C D
      unfold bellpullref05_Check.l0
      with_reducible repeat' first|exact E _ _ _|exact F _ _ _|exact G _ _ _|exact bellpullref05_Long.mono _ _|exact bellpullref05_Odd.mono _ _ _|exact bellpullref05_Wide.mono _ _ _|exact LeO.refl _|exact LeO.none _|refine LeO.ite ?_ ?_|refine LeO.bind ?_ (fun _=>?_)
    · intro B C D
      unfold bellpullref05_Check.l1
      with_reducible repeat' first|exact E _ _ _|exact F _ _ _|exact G _ _ _|exact bellpullref05_Long.mono _ _|exact bellpullref05_Odd.mono _ _ _|exact bellpullref05_Wide.mono _ _ _|exact LeO.refl _|exact LeO.none _|refine LeO.ite ?_ ?_|refine LeO.bind ?_ (fun _=>?_)
    · intro B C D
      unfold bellpullref05_Check.l2
      with_reducible repeat' first|exact E _ _ _|exact F _ _ _|exact G _ _ _|exact bellpullref05_Long.mono _ _|exact bellpullref05_Odd.mono _ _ _|exact bellpullref05_Wide.mono _ _ _|exact LeO.refl _|exact LeO.none _|refine LeO.ite ?_ ?_|refine LeO.bind ?_ (fun _=>?_)
theorem bellpullref05_Check.mono:∀ a0 a1 k,LeO (bellpullref05_Check.f k a0 a1) (bellpullref05_Check.f (k + 1) a0 a1):=by
  intro a0 a1 k
  obtain ⟨ih0,ih1,ih2⟩:=bellpullref05_Check.mono_l k
  unfold bellpullref05_Check.f
  with_reducible repeat' first|exact ih0 _ _ _|exact ih1 _ _ _|exact ih2 _ _ _|exact bellpullref05_Long.mono _ _|exact bellpullref05_Odd.mono _ _ _|exact bellpullref05_Wide.mono _ _ _|exact LeO.refl _|exact LeO.none _|refine LeO.ite ?_ ?_|refine LeO.bind ?_ (fun _=>?_)
end Go.Proofs.Ytkonljiembcdlaa.PC
/- Which error semilinear sets have, by the program and by the reference, in plain Lean. -/
set_option linter.unusedVariables false
set_option linter.unusedSimpArgs false
namespace Go.Proofs.Ytkonljiembcdlaa.Pure
open Go.RowKit Go.Proofs.MyWords Go.Proofs.YtkonljiembcdlaaW.PrintWords Go.Proofs.YtkonljiembcdlaaW.PrintLast Go.Proofs.YtkonljiembcdlaaW.PrintMore Go.Proofs.Ytkonljiembcdlaa.PC Go.Proofs.Ytkonljiembcdlaa.Sem
def farV (v:List Int):Bool:=v.any fun x=>decide (x < 0) || decide (20 < x)
def oddV (d:Int) (v:List Int):Bool:=(v.length:Int) != d
def longS (s:List S60):Bool:=s.any (fun l=>decide ((l.f1.length:Int) > 4)) || decide ((s.length:Int) > 8)
def wideS (s:List S60):Bool:=s.any fun l=>farV l.f0 || l.f1.any farV
def oddS (d:Int) (s:List S60):Bool:=s.any fun l=>oddV d l.f0 || l.f1.any (oddV d)
def badD (d:Int):Bool:=decide (d < 1) || decide (d > 3)
def chk (d:Int) (ss:List (List S60)):Int:=if ss.any longS=true then 3 else if (badD d || ss.any wideS)=true then 1 else if ss.any (oddS d)=true then 2 else 0
def short {α:Type} (l:List α):Prop:=l.length < 1000000000
theorem short.tail {α:Type} {x:α} {l:List α} (h:short (x :: l)):short l:=by unfold short at *;simp at h;omega
section
variable (d:Int) (lg:Bool) (ss:List (List S60)) (n2 i2:Int) (set:List S60) (n1 i1:Int)
theorem check_l2:∀ (t pre:List (List Int)) (fr od:Bool) (r:Int),short (pre ++ t) → Ev (fun k=>count_check.l1 k d lg (fr || t.any farV) (od || t.any (oddV d)) ss n2 i2 set n1 (wrap64 (i1 + 1))) r →
    Ev (fun k=>count_check.l2 k d lg fr od ss n2 i2 set n1 i1 (pre ++ t) ((pre ++ t).length:Int) (pre.length:Int)) r
  | [],pre,fr,od,r,hs,h=>by
    refine Ev.succ ?_
    simp only [count_check.l2]
    refine Ev.neg (by simp) ?_
    simpa using h
  | p :: t,pre,fr,od,r,hs,h=>by
    have ws:wrap64 ((pre.length:Int) + 1)=((pre.length + 1:Nat):Int):=wsucc (by unfold short at hs;simp at hs;omega)
    have ih:∀ fr od,Ev (fun k=>count_check.l1 k d lg (fr || t.any farV) (od || t.any (oddV d)) ss n2 i2 set n1 (wrap64 (i1 + 1))) r → Ev (fun k=>count_check.l2 k d lg fr od ss n2 i2 set n1 i1 (pre ++ p :: t) ((pre ++ p :: t).length:Int) ((pre.length + 1:Nat):Int)) r:=fun fr od h2=>by
      have:=check_l2 t (pre ++ [p]) fr od r (by rw [← app_snoc];exact hs) h2
      rw [← app_snoc,← len_snoc] at this
      exact this
    rw [List.any_cons,List.any_cons,← Bool.or_assoc,← Bool.or_assoc] at h
    refine Ev.succ ?_
    simp only [count_check.l2,rdL1_app,ws]
    refine Ev.pos (lt_app _ _ _) (Ev.pos (by omega) (Ev.pos (lt_app _ _ _) ?_))
    have inner:∀ f2,f2=(fr || farV p) → Ev (fun k=>if od=true then count_check.l2 k d lg f2 true ss n2 i2 set n1 i1 (pre ++ p :: t) ((pre ++ p :: t).length:Int) ((pre.length + 1:Nat):Int) else count_check.l2 k d lg f2 ((p.length:Int) != d) ss n2 i2 set n1 i1 (pre ++ p :: t) ((pre ++ p :: t).length:Int) ((pre.length + 1:Nat):Int)) r:=fun f2 e=>by
      subst e
      cases od with
      | true=>exact Ev.pos rfl (ih _ _ h)
      | false=>exact Ev.neg (by simp) (ih _ _ h)
    cases fr with
    | true=>exact Ev.pos rfl (inner _ rfl)
    | false =>
      refine Ev.neg (by simp) ?_
      refine Ev.bindc (x:=farV p) rfl ?_
      exact inner _ rfl
end
theorem check_l1 (d:Int) (ss:List (List S60)) (n2 i2:Int):∀ (t pre:List S60) (lg fr od:Bool) (r:Int),short (pre ++ t) → (∀ l,l ∈ t → short l.f1) →
    Ev (fun k=>count_check.l0 k d (lg || t.any (fun l=>decide ((l.f1.length:Int) > 4))) (fr || wideS t) (od || oddS d t) ss n2 (wrap64 (i2 + 1))) r →
    Ev (fun k=>count_check.l1 k d lg fr od ss n2 i2 (pre ++ t) ((pre ++ t).length:Int) (pre.length:Int)) r
  | [],pre,lg,fr,od,r,hs,hp,h=>by
    refine Ev.succ ?_
    simp only [count_check.l1]
    refine Ev.neg (by simp) ?_
    simpa [wideS,oddS] using h
  | l :: t,pre,lg,fr,od,r,hs,hp,h=>by
    have ws:wrap64 ((pre.length:Int) + 1)=((pre.length + 1:Nat):Int):=wsucc (by unfold short at hs;simp at hs;omega)
    have ih:∀ lg fr od,Ev (fun k=>count_check.l0 k d (lg || t.any (fun l=>decide ((l.f1.length:Int) > 4))) (fr || wideS t) (od || oddS d t) ss n2 (wrap64 (i2 + 1))) r → Ev (fun k=>count_check.l1 k d lg fr od ss n2 i2 (pre ++ l :: t) ((pre ++ l :: t).length:Int) ((pre.length + 1:Nat):Int)) r:=fun lg fr od h2=>by
      have:=check_l1 d ss n2 i2 t (pre ++ [l]) lg fr od r (by rw [← app_snoc];exact hs) (fun x hx=>hp x (by simp [hx])) h2
      rw [← app_snoc,← len_snoc] at this
      exact this
    have e1:wideS (l :: t)=(farV l.f0 || l.f1.any farV || wideS t):=by unfold wideS;rw [List.any_cons]
    have e2:oddS d (l :: t)=(oddV d l.f0 || l.f1.any (oddV d) || oddS d t):=by unfold oddS;rw [List.any_cons]
    rw [List.any_cons,e1,e2,← Bool.or_assoc,← Bool.or_assoc,← Bool.or_assoc,← Bool.or_assoc,← Bool.or_assoc] at h
    have s6:∀ lg fr od,Ev (fun k=>count_check.l0 k d (lg || t.any (fun l=>decide ((l.f1.length:Int) > 4))) (fr || l.f1.any farV || wideS t) (od || l.f1.any (oddV d) || oddS d t) ss n2 (wrap64 (i2 + 1))) r → Ev (fun k=>count_check.j6 k d lg fr od ss n2 i2 (pre ++ l :: t) ((pre ++ l :: t).length:Int) (pre.length:Int) l.f0 l.f1) r:=fun lg fr od h2=>by
      refine Ev.succ ?_
      simp only [count_check.j6]
      refine check_l2 d lg ss n2 i2 _ _ _ l.f1 [] fr od r (hp l (by simp)) ?_
      rw [ws]
      exact ih _ _ _ h2
    have s5:∀ lg fr od,Ev (fun k=>count_check.l0 k d (lg || t.any (fun l=>decide ((l.f1.length:Int) > 4))) (fr || l.f1.any farV || wideS t) (od || oddV d l.f0 || l.f1.any (oddV d) || oddS d t) ss n2 (wrap64 (i2 + 1))) r → Ev (fun k=>count_check.j5 k d lg fr od ss n2 i2 (pre ++ l :: t) ((pre ++ l :: t).length:Int) (pre.length:Int) l.f0 l.f1) r:=fun lg fr od h2=>by
      refine Ev.succ ?_
      simp only [count_check.j5]
      cases od with
      | true=>exact Ev.pos rfl (s6 _ _ _ (by simpa using h2))
      | false=>exact Ev.neg (by simp) (s6 _ _ _ (by simpa [oddV] using h2))
    have s4:∀ lg fr od,Ev (fun k=>count_check.l0 k d (lg || t.any (fun l=>decide ((l.f1.length:Int) > 4))) (fr || farV l.f0 || l.f1.any farV || wideS t) (od || oddV d l.f0 || l.f1.any (oddV d) || oddS d t) ss n2 (wrap64 (i2 + 1))) r → Ev (fun k=>count_check.j4 k d lg fr od ss n2 i2 (pre ++ l :: t) ((pre ++ l :: t).length:Int) (pre.length:Int) l.f0 l.f1) r:=fun lg fr od h2=>by
      refine Ev.succ ?_
      simp only [count_check.j4]
      cases fr with
      | true=>exact Ev.pos rfl (s5 _ _ _ (by simpa using h2))
      | false =>
        refine Ev.neg (by simp) ?_
        refine Ev.bindc (x:=farV l.f0) rfl ?_
        exact s5 _ _ _ (by simpa using h2)
    refine Ev.succ ?_
    simp only [count_check.l1,rdT60_app]
    refine Ev.pos (lt_app _ _ _) (Ev.pos (by omega) (Ev.pos (lt_app _ _ _) ?_))
    cases lg with
    | true=>exact Ev.pos rfl (s4 _ _ _ (by simpa using h))
    | false=>exact Ev.neg (by simp) (s4 _ _ _ (by simpa using h))
def tell (lg fr od:Bool):Int:=if lg=true then 3 else if fr=true then 1 else if od=true then 2 else 0
theorem check_l0 (d:Int):∀ (t pre:List (List S60)) (lg fr od:Bool),short (pre ++ t) → (∀ s,s ∈ t → short s∧∀ l,l ∈ s → short l.f1) →
    Ev (fun k=>count_check.l0 k d lg fr od (pre ++ t) ((pre ++ t).length:Int) (pre.length:Int)) (tell (lg || t.any longS) (fr || t.any wideS) (od || t.any (oddS d)))
  | [],pre,lg,fr,od,hs,hp=>by
    refine Ev.succ ?_
    simp only [count_check.l0]
    refine Ev.neg (by simp) ?_
    unfold tell
    cases lg
    · refine Ev.neg (by simp) ?_
      cases fr
      · refine Ev.neg (by simp) ?_
        cases od
        · exact Ev.neg (by simp) (Ev.now _)
        · exact Ev.pos rfl (Ev.now _)
      · exact Ev.pos rfl (Ev.now _)
    · exact Ev.pos rfl (Ev.now _)
  | s :: t,pre,lg,fr,od,hs,hp=>by
    have ws:wrap64 ((pre.length:Int) + 1)=((pre.length + 1:Nat):Int):=wsucc (by unfold short at hs;simp at hs;omega)
    have ih:∀ lg fr od,Ev (fun k=>count_check.l0 k d lg fr od (pre ++ s :: t) ((pre ++ s :: t).length:Int) ((pre.length + 1:Nat):Int)) (tell (lg || t.any longS) (fr || t.any wideS) (od || t.any (oddS d))):=fun lg fr od=>by
      have:=check_l0 d t (pre ++ [s]) lg fr od (by rw [← app_snoc];exact hs) (fun x hx=>hp x (by simp [hx]))
      rw [← app_snoc,← len_snoc] at this
      exact this
    have j2:∀ lg,Ev (fun k=>count_check.j2 k d lg fr od s (pre ++ s :: t) ((pre ++ s :: t).length:Int) (pre.length:Int)) (tell ((lg || s.any (fun l=>decide ((l.f1.length:Int) > 4))) || t.any longS) (fr || wideS s || t.any wideS) (od || oddS d s || t.any (oddS d))):=fun lg=>by
      refine Ev.succ ?_
      simp only [count_check.j2]
      refine check_l1 d _ _ _ s [] lg fr od _ (hp s (by simp)).1 (hp s (by simp)).2 ?_
      rw [ws]
      exact ih _ _ _
    refine Ev.succ ?_
    simp only [count_check.l0,rdL4_app]
    refine Ev.pos (lt_app _ _ _) (Ev.pos (by omega) (Ev.pos (lt_app _ _ _) ?_))
    rw [List.any_cons,List.any_cons,List.any_cons,← Bool.or_assoc,← Bool.or_assoc,← Bool.or_assoc]
    cases lg with
    | true =>
      refine Ev.pos rfl ?_
      simpa using j2 true
    | false =>
      refine Ev.neg (by simp) ?_
      have:=j2 (decide ((s.length:Int) > 8))
      rw [Bool.or_comm (decide ((s.length:Int) > 8))] at this
      rw [Bool.false_or]
      exact this
theorem check_ev (d:Int) (ss:List (List S60)) (hs:short ss) (hp:∀ s,s ∈ ss → short s∧∀ l,l ∈ s → short l.f1):Ev (fun k=>count_check.f k d ss) (chk d ss):=by
  have go:∀ fr,Ev (fun k=>count_check.j0 k d ss false fr false) (tell (ss.any longS) (fr || ss.any wideS) (ss.any (oddS d))):=fun fr=>by
    refine Ev.succ ?_
    simp only [count_check.j0]
    have:=check_l0 d ss [] false fr false hs hp
    simpa using this
  unfold count_check.f
  by_cases h:d < 1
  · have e:badD d=true:=by unfold badD;simp [h]
    refine Ev.pos h ?_
    have:=go true
    unfold chk
    rw [e]
    exact this
  · have e:badD d=decide (d > 3):=by unfold badD;simp [h]
    refine Ev.neg h ?_
    have:=go (decide (d > 3))
    unfold chk
    rw [e]
    exact this
def shortL (l:S60):Prop:=short l.f0∧short (l.f0 :: l.f1)∧∀ p,p ∈ l.f1 → short p
def shortS (s:List S60):Prop:=short s∧∀ l,l ∈ s → shortL l
def okSet (d:Nat) (s:List S60):Prop:=s.length ≤ 8∧∀ l,l ∈ s → okV d 20 l.f0∧l.f1.length ≤ 4∧∀ p,p ∈ l.f1 → okV d 20 p
theorem farV_iff (v:List Int):farV v=false ↔ inB 20 v:=by
  have:=outside_iff v 20
  unfold farV
  rw [← Bool.not_eq_true,this]
  exact ⟨fun h=>Classical.byContradiction h,fun h h2=>h2 h⟩
theorem oddV_iff (d:Int) (v:List Int):oddV d v=false ↔ (v.length:Int)=d:=by unfold oddV;simp
theorem chk_ok {d:Int} {ss:List (List S60)}:chk d ss=0 ↔ (1 ≤ d∧d ≤ 3)∧∀ s,s ∈ ss → okSet d.toNat s:=by
  have hl:∀ s,longS s=false ↔ s.length ≤ 8∧∀ l,l ∈ s → l.f1.length ≤ 4:=fun s=>by
    unfold longS
    rw [Bool.or_eq_false_iff,← Bool.not_eq_true,List.any_eq_true,decide_eq_false_iff_not]
    constructor
    · rintro ⟨h1,h2⟩
      exact ⟨by omega,fun l hl=>Nat.le_of_not_lt (fun h=>h1 ⟨l,hl,decide_eq_true (by omega)⟩)⟩
    · rintro ⟨h1,h2⟩
      exact ⟨fun ⟨l,hl,h⟩=>by have:=h2 l hl;have:=of_decide_eq_true h;omega,by omega⟩
  have hw:∀ s,wideS s=false ↔ ∀ l,l ∈ s → inB 20 l.f0∧∀ p,p ∈ l.f1 → inB 20 p:=fun s=>by
    unfold wideS
    rw [← Bool.not_eq_true,List.any_eq_true]
    constructor
    · intro h l hl
      have:(farV l.f0 || l.f1.any farV)=false:=by
        rw [← Bool.not_eq_true];exact fun h2=>h ⟨l,hl,h2⟩
      rw [Bool.or_eq_false_iff,← Bool.not_eq_true (l.f1.any farV),List.any_eq_true] at this
      exact ⟨(farV_iff _).1 this.1,fun p hp=>(farV_iff _).1 (by rw [← Bool.not_eq_true];exact fun h2=>this.2 ⟨p,hp,h2⟩)⟩
    · rintro h ⟨l,hl,h2⟩
      rcases (Bool.or_eq_true _ _).mp h2 with h2|h2
      · rw [(farV_iff _).2 (h l hl).1] at h2;cases h2
      · obtain ⟨p,hp,h2⟩:=List.any_eq_true.1 h2
        rw [(farV_iff _).2 ((h l hl).2 p hp)] at h2;cases h2
  have ho:∀ s,oddS d s=false ↔ ∀ l,l ∈ s → (l.f0.length:Int)=d∧∀ p,p ∈ l.f1 → (p.length:Int)=d:=fun s=>by
    unfold oddS
    rw [← Bool.not_eq_true,List.any_eq_true]
    constructor
    · intro h l hl
      have:(oddV d l.f0 || l.f1.any (oddV d))=false:=by
        rw [← Bool.not_eq_true];exact fun h2=>h ⟨l,hl,h2⟩
      rw [Bool.or_eq_false_iff,← Bool.not_eq_true (l.f1.any (oddV d)),List.any_eq_true] at this
      exact ⟨(oddV_iff _ _).1 this.1,fun p hp=>(oddV_iff _ _).1 (by rw [← Bool.not_eq_true];exact fun h2=>this.2 ⟨p,hp,h2⟩)⟩
    · rintro h ⟨l,hl,h2⟩
      rcases (Bool.or_eq_true _ _).mp h2 with h2|h2
      · rw [(oddV_iff _ _).2 (h l hl).1] at h2;cases h2
      · obtain ⟨p,hp,h2⟩:=List.any_eq_true.1 h2
        rw [(oddV_iff _ _).2 ((h l hl).2 p hp)] at h2;cases h2
  have anyF:∀ (f:List S60 → Bool),ss.any f=false ↔ ∀ s,s ∈ ss → f s=false:=fun f=>by
    rw [← Bool.not_eq_true,List.any_eq_true]
    exact ⟨fun h s hs=>by rw [← Bool.not_eq_true];exact fun h2=>h ⟨s,hs,h2⟩,fun h ⟨s,hs,h2⟩=>by rw [h s hs] at h2;cases h2⟩
  have hb:badD d=false ↔ 1 ≤ d∧d ≤ 3:=by unfold badD;rw [Bool.or_eq_false_iff,decide_eq_false_iff_not,decide_eq_false_iff_not];omega
  have h0:chk d ss=0 ↔ ss.any longS=false∧badD d=false∧ss.any wideS=false∧ss.any (oddS d)=false:=by
    unfold chk
    cases ss.any longS <;> cases badD d <;> cases ss.any wideS <;> cases ss.any (oddS d) <;> simp
  rw [h0,anyF,anyF,anyF,hb]
  constructor
  · rintro ⟨h1,h2,h3,h4⟩
    refine ⟨h2,fun s hs=>⟨((hl s).1 (h1 s hs)).1,fun l hls=>?_⟩⟩
    have q3:=(hw s).1 (h3 s hs) l hls
    have q4:=(ho s).1 (h4 s hs) l hls
    exact ⟨⟨by omega,q3.1⟩,((hl s).1 (h1 s hs)).2 l hls,fun p hp=>⟨by have:=q4.2 p hp;omega,q3.2 p hp⟩⟩
  · rintro ⟨h1,h2⟩
    refine ⟨fun s hs=>(hl s).2 ⟨(h2 s hs).1,fun l hls=>((h2 s hs).2 l hls).2.1⟩,h1,fun s hs=>(hw s).2 (fun l hls=>?_),fun s hs=>(ho s).2 (fun l hls=>?_)⟩
    · have:=(h2 s hs).2 l hls
      exact ⟨this.1.2,fun p hp=>(this.2.2 p hp).2⟩
    · have:=(h2 s hs).2 l hls
      exact ⟨by have:=this.1.1;omega,fun p hp=>by have:=(this.2.2 p hp).1;omega⟩
theorem okSet.shorts {d:Nat} (hd:d ≤ 3) {s:List S60} (h:okSet d s):shortS s:=by
  refine ⟨by have:=h.1;unfold short;omega,fun l hl=>?_⟩
  have:=h.2 l hl
  exact ⟨by have:=this.1.1;unfold short;omega,by have:=this.2.1;unfold short;simp;omega,fun p hp=>by have:=(this.2.2 p hp).1;unfold short;omega⟩
theorem okSet.okL {d:Nat} {s:List S60} (h:okSet d s):∀ l,l ∈ s → okL d l:=fun l hl=>by
  have:=h.2 l hl
  exact ⟨this.1.mono (by decide),fun p hp=>(this.2.2 p hp).mono (by decide),by omega⟩
end Go.Proofs.Ytkonljiembcdlaa.Pure
/- The program's sums and stars of semilinear sets, in plain Lean. -/
set_option linter.unusedVariables false
set_option linter.unusedSimpArgs false
namespace Go.Proofs.Ytkonljiembcdlaa.Pure
open Go.RowKit Go.Proofs.MyWords Go.Proofs.YtkonljiembcdlaaW.PrintWords Go.Proofs.YtkonljiembcdlaaW.PrintLast Go.Proofs.YtkonljiembcdlaaW.PrintMore Go.Proofs.Ytkonljiembcdlaa.PC Go.Proofs.Ytkonljiembcdlaa.Sem
theorem plus_go:∀ (v2 w2 v1 w1 o1:List Int),v1.length=w1.length → o1.length=v1.length → v2.length=w2.length → inB 1000000 v2 → inB 1000000 w2 → (v1 ++ v2).length < 1000000 →
    Ev (fun k=>count_plus.l0 k (v1 ++ v2) (w1 ++ w2) (o1 ++ List.replicate v2.length 0) ((v1 ++ v2).length:Int) (v1.length:Int)) (o1 ++ addV v2 w2)
  | [],[],v1,w1,o1,h1,h2,h3,b1,b2,hl=>by
    refine Ev.succ ?_
    simp only [count_plus.l0]
    refine Ev.neg (by simp) ?_
    simp [addV]
    exact Ev.now _
  | x :: v2,y :: w2,v1,w1,o1,h1,h2,h3,b1,b2,hl=>by
    have ih:=plus_go v2 w2 (v1 ++ [x]) (w1 ++ [y]) (o1 ++ [x + y]) (by simp [h1]) (by simp [h2]) (by simpa using h3) (fun z hz=>b1 z (by simp [hz])) (fun z hz=>b2 z (by simp [hz])) (by simp at hl ⊢;omega)
    have bx:=b1 x (by simp)
    have by':=b2 y (by simp)
    refine Ev.succ ?_
    simp only [count_plus.l0]
    refine Ev.pos (by simp;omega) (Ev.pos (by omega) (Ev.pos (by simp;omega) (Ev.pos (by simp;omega) (Ev.pos (by simp;omega) ?_))))
    rw [rd_app v1 x v2,show (v1.length:Int)=(w1.length:Int) by omega,rd_app w1 y w2,← h1,wrap_id (by omega) (by omega),wsucc (by simp at hl;omega)]
    rw [← app_snoc,← app_snoc] at ih
    have e:(o1 ++ List.replicate (x :: v2).length 0).set ((v1.length:Int)).toNat (x + y)=o1 ++ [x + y] ++ List.replicate v2.length 0:=by
      rw [← h2,List.length_cons,List.replicate_succ,set_app];simp
    rw [e,len_snoc v1 x,addV]
    rw [List.append_assoc o1 [x + y] (addV v2 w2)] at ih
    exact ih
theorem plus_ev {v w:List Int} (h:v.length=w.length) (hv:inB 1000000 v) (hw:inB 1000000 w) (hl:v.length < 1000000):Ev (fun k=>count_plus.f k v w) (addV v w):=by
  have:=plus_go v w [] [] [] rfl rfl h hv hw hl
  simp only [List.nil_append,List.length_nil] at this
  unfold count_plus.f
  refine Ev.pos (by omega) (Ev.pos (by omega) ?_)
  rw [Int.toNat_natCast]
  exact this
theorem copies_go:∀ (t pre:List (List Int)),(pre ++ t).length < 1000000 → (∀ p,p ∈ t → p.length ≤ 5000000) → Ev (fun k=>count_copies.l0 k pre (pre ++ t) ((pre ++ t).length:Int) (pre.length:Int)) (pre ++ t)
  | [],pre,hl,hp=>by
    refine Ev.succ ?_
    simp only [count_copies.l0]
    refine Ev.neg (by simp) ?_
    rw [List.append_nil]
    exact Ev.now _
  | p :: t,pre,hl,hp=>by
    have ih:=copies_go t (pre ++ [p]) (by rw [← app_snoc];exact hl) (fun q hq=>hp q (by simp [hq]))
    rw [← app_snoc,← len_snoc] at ih
    have hl2:pre.length < 1000000:=by simp at hl;omega
    refine Ev.succ ?_
    simp only [count_copies.l0,rdL1_app,wsucc (show pre.length < 4611686018427387904 by omega)]
    refine Ev.pos (lt_app _ _ _) (Ev.pos (by omega) (Ev.pos (lt_app _ _ _) ?_))
    exact Ev.bindc (if_pos (hp p (by simp))) (Ev.pos (by omega) ih)
theorem copies_ev {ps:List (List Int)} (hl:ps.length < 1000000) (hp:∀ p,p ∈ ps → p.length ≤ 5000000):Ev (fun k=>count_copies.f k ps) ps:=copies_go ps [] hl hp
def midL (d:Nat) (l:S60):Prop:=okV d 1000 l.f0∧l.f1.length ≤ 1000∧∀ p,p ∈ l.f1 → okV d 1000 p
theorem midL.okL {d:Nat} {l:S60} (h:midL d l):okL d l:=⟨h.1.mono (by decide),fun p hp=>(h.2.2 p hp).mono (by decide),by have:=h.2.1;omega⟩
theorem el_ev {d:Nat} (hd:d ≤ 3) {a b:S60} (ha:midL d a) (hb:midL d b):Ev (fun k=>count_sum.el k a b) (sumE a b):=by
  unfold count_sum.el
  have e:=plus_ev (ha.1.1.trans hb.1.1.symm) (ha.1.mono (n:=1000000) (by decide)).2 (hb.1.mono (n:=1000000) (by decide)).2 (by have:=ha.1.1;omega)
  have hlen:(a.f1 ++ b.f1).length ≤ 2000:=by rw [List.length_append];have:=ha.2.1;have:=hb.2.1;omega
  refine Ev.bind e (Ev.pos (by omega) (Ev.bind (copies_ev (by omega) (fun p hp=>?_)) (Ev.now _)))
  rcases List.mem_append.1 hp with hp|hp
  · have:=(ha.2.2 p hp).1;omega
  · have:=(hb.2.2 p hp).1;omega
theorem row_ev {d:Nat} (hd:d ≤ 3) {a:S60} (ha:midL d a):∀ y:List S60,(∀ b,b ∈ y → midL d b) → Ev (fun k=>count_sum.row k a y) (y.map (sumE a))
  | [],_=>Ev.now _
  | b :: y,h=>Ev.bind (el_ev hd ha (h b (by simp))) (Ev.bind (row_ev hd ha y (fun c hc=>h c (by simp [hc]))) (Ev.now _))
theorem sum_ev {d:Nat} (hd:d ≤ 3) {x y:List S60} (hx:∀ a,a ∈ x → midL d a) (hy:∀ a,a ∈ y → midL d a) (h1:x.length ≤ 5000) (h2:y.length ≤ 5000):Ev (fun k=>count_sum.f k x y) (sumL x y):=by
  have go:∀ x:List S60,(∀ a,a ∈ x → midL d a) → Ev (fun k=>count_sum.g k y x) (sumL x y):=fun x=>by
    induction x with
    | nil=>exact fun _=>Ev.now _
    | cons a x ih=>exact fun h=>Ev.bind (row_ev hd (h a (by simp)) y hy) (Ev.bind (ih (fun c hc=>h c (by simp [hc]))) (Ev.now _))
  unfold count_sum.f
  exact Ev.pos ⟨h1,h2⟩ (go x hx)
theorem bit_f:∀ c:Nat,c < 256 → Go.bits .and .i64 ((c:Nat):Int) 1=((c % 2:Nat):Int):=by decide +kernel
theorem shr_f (c i:Nat) (hi:i ≤ 60):shr .i64 (c:Int) (i:Int)=((c / 2 ^ i:Nat):Int):=by
  unfold shr
  rw [Int.toNat_natCast,Nat.min_eq_left (by show i ≤ 64;omega),Int.natCast_ediv,Int.natCast_pow]
  rfl
theorem shl_f:∀ n:Nat,n ≤ 8 → shl .i64 1 ((n:Nat):Int)=((2 ^ n:Nat):Int):=fun n hn=>by
  have:n=0 ∨ n=1 ∨ n=2 ∨ n=3 ∨ n=4 ∨ n=5 ∨ n=6 ∨ n=7 ∨ n=8:=by omega
  rcases this with rfl|rfl|rfl|rfl|rfl|rfl|rfl|rfl|rfl <;> decide +kernel
theorem okSet.mid {d:Nat} {s:List S60} (h:okSet d s):∀ l,l ∈ s → midL d l:=fun l hl=>by
  have:=h.2 l hl
  exact ⟨this.1.mono (by decide),by omega,fun p hp=>(this.2.2 p hp).mono (by decide)⟩
theorem inB_addV {m n:Int}:∀ {v w:List Int},inB m v → inB n w → inB (m + n) (addV v w)
  | [],w,_,_=>by intro x hx;simp [addV] at hx
  | x :: v,[],_,_=>by intro x hx;simp [addV] at hx
  | x :: v,y :: w,hv,hw=>by
    intro z hz
    rw [addV] at hz
    rcases List.mem_cons.1 hz with rfl|hz
    · have:=hv x (by simp)
      have:=hw y (by simp)
      omega
    · exact inB_addV (fun a ha=>hv a (by simp [ha])) (fun a ha=>hw a (by simp [ha])) z hz
section
variable {d:Nat} (hd:d ≤ 3) (x:List S60) (hx:okSet d x)
include hd hx
theorem star_l1 (out:List S60) (ho:out.length < 1000000) (c:Nat) (hc:c < 256) (r:List S60):∀ (t pre:List S60) (b:List Int) (ps:List (List Int)),x=pre ++ t → b.length=d → inB (20 * pre.length) b → ps.length ≤ 5 * pre.length → (∀ p,p ∈ ps → p.length=d) →
    Ev (fun k=>count_star.l0 k (d:Int) x (out ++ [⟨addV b (sumB d (pickN (c / 2 ^ pre.length) t)),ps ++ (pickN (c / 2 ^ pre.length) t).flatMap fun a=>a.f0 :: a.f1⟩]) (wrap64 ((c:Int) + 1))) r →
    Ev (fun k=>count_star.l1 k (d:Int) x out (c:Int) x (x.length:Int) (pre.length:Int) b ps) r
  | [],pre,b,ps,e,hb,ib,hps,hpl,h=>by
    refine Ev.succ ?_
    simp only [count_star.l1]
    have hl:x.length=pre.length:=by rw [e];simp
    refine Ev.neg (by omega) (Ev.pos (by omega) ?_)
    rw [pickN,sumB,addV_zero hb,List.flatMap_nil,List.append_nil] at h
    exact h
  | a :: t,pre,b,ps,e,hb,ib,hps,hpl,h=>by
    have hl:x.length=pre.length + (t.length + 1):=by rw [e];simp
    have h8:pre.length ≤ 7:=by have:=hx.1;omega
    have ha:=hx.2 a (by rw [e];simp)
    have h1:rd_T60 x (pre.length:Int)=a:=by rw [e];exact rdT60_app _ _ _
    have ih:=fun b ps=>star_l1 out ho c hc r t (pre ++ [a]) b ps (by rw [e];simp)
    have e2:c / 2 ^ (pre ++ [a]).length=c / 2 ^ pre.length / 2:=by rw [← len_snoc,Nat.pow_succ,Nat.div_div_eq_div_mul]
    rw [e2,← len_snoc] at ih
    have hq:c / 2 ^ pre.length < 256:=Nat.lt_of_le_of_lt (Nat.div_le_self _ _) hc
    refine Ev.succ ?_
    simp only [count_star.l1,h1,shr_f c pre.length (by omega),wsucc (show pre.length < 4611686018427387904 by omega),bit_f _ hq]
    refine Ev.pos (by omega) (Ev.pos (by omega) (Ev.pos (by omega) ?_))
    rw [pickN] at h
    by_cases hbit:c / 2 ^ pre.length % 2=1
    · rw [if_pos hbit,sumB,← addV_assoc,List.flatMap_cons,← List.append_assoc] at h
      have ibm:inB 1000000 b:=fun z hz=>⟨(ib z hz).1,by have:=(ib z hz).2;omega⟩
      have ep:=plus_ev (hb.trans ha.1.1.symm) ibm (ha.1.mono (n:=1000000) (by decide)).2 (by omega)
      have hcop:=copies_ev (ps:=a.f0 :: a.f1) (by have:=ha.2.1;simp;omega) (fun p hp=>by
        rcases List.mem_cons.1 hp with rfl|hp
        · have:=ha.1.1;omega
        · have:=(ha.2.2 p hp).1;omega)
      have l5:(a.f0 :: a.f1).length ≤ 5:=by have:=ha.2.1;simp;omega
      refine Ev.pos (by omega) (Ev.bind ep (Ev.bindc rfl (Ev.pos (by simp;omega) (Ev.bind hcop (Ev.pos (by omega) ?_)))))
      refine ih _ _ (addV_len hb ha.1.1) (fun z hz=>?_) (by rw [List.length_append];omega) (fun p hp=>?_) h
      · have:=inB_addV ib ha.1.2 z hz
        rw [Int.natCast_succ];omega
      · rcases List.mem_append.1 hp with hp|hp
        · exact hpl p hp
        · rcases List.mem_cons.1 hp with rfl|hp
          · exact ha.1.1
          · exact (ha.2.2 p hp).1
    · rw [if_neg hbit] at h
      refine Ev.neg (by omega) (ih b ps hb (fun z hz=>?_) (by omega) hpl h)
      have:=ib z hz
      rw [Int.natCast_succ];omega
theorem star_l0:∀ (n c:Nat),2 ^ x.length - c=n → c ≤ 2 ^ x.length → 1 ≤ c → Ev (fun k=>count_star.l0 k (d:Int) x ((List.range c).map fun c=>starOf d (pickN c x)) (c:Int)) (starL d x):=by
  have hp:2 ^ x.length ≤ 256:=Nat.pow_le_pow_right (n:=2) (by omega) hx.1
  intro n
  induction n with
  | zero =>
    intro c hn hc h1
    have e:c=2 ^ x.length:=by omega
    refine Ev.succ ?_
    simp only [count_star.l0,shl_f x.length hx.1]
    refine Ev.neg (by omega) ?_
    rw [e]
    exact Ev.now _
  | succ n ih =>
    intro c hn hc h1
    have ih:=ih (c + 1) (by omega) (by omega) (by omega)
    refine Ev.succ ?_
    simp only [count_star.l0,shl_f x.length hx.1]
    refine Ev.pos (by omega) (Ev.pos (by omega) (Ev.pos (by omega) ?_))
    rw [Int.toNat_natCast]
    refine star_l1 hd x hx _ (by simp;omega) c (by omega) _ x [] (List.replicate d 0) [] rfl (by simp) (fun z hz=>by rw [List.eq_of_mem_replicate hz];simp) (by simp) (fun p hp=>by simp at hp) ?_
    rw [wsucc (by omega),List.length_nil,Nat.pow_zero,Nat.div_one,List.nil_append]
    rw [List.range_succ,List.map_append] at ih
    have e:addV (List.replicate d 0) (sumB d (pickN c x))=sumB d (pickN c x):=zero_addV (sumB_len (fun a ha=>(hx.mid a ((pick_sub x c).subset ha)).okL)).1
    rw [e]
    exact ih
theorem star_ev:Ev (fun k=>count_star.f k (d:Int) x) (starL d x):=by
  unfold count_star.f
  refine Ev.pos (by omega) (Ev.pos (by omega) ?_)
  have:=star_l0 hd x hx _ 1 rfl (Nat.one_le_two_pow) (Nat.le_refl _)
  have e:((List.range 1).map fun c=>starOf d (pickN c x))=[⟨List.replicate ((d:Int)).toNat 0,[]⟩]:=by
    rw [Int.toNat_natCast]
    show [starOf d (pickN 0 x)]=_
    rw [pick_zero];rfl
  rw [e] at this
  exact this
end
theorem inB_sumB {d:Nat}:∀ {ch:List S60},(∀ a,a ∈ ch → okV d 20 a.f0) → inB (20 * ch.length) (sumB d ch)
  | [],_=>fun z hz=>by rw [zeroN_mem hz];simp
  | a :: t,h=>fun z hz=>by
    have:=inB_addV (h a (by simp)).2 (inB_sumB (ch:=t) (fun b hb=>h b (by simp [hb]))) z hz
    rw [List.length_cons,Int.natCast_succ];omega
theorem star_mid {d:Nat} {x:List S60} (hx:okSet d x):(starL d x).length ≤ 256∧∀ l,l ∈ starL d x → midL d l:=by
  have hp:2 ^ x.length ≤ 256:=Nat.pow_le_pow_right (n:=2) (by omega) hx.1
  unfold starL
  refine ⟨by rw [List.length_map,List.length_range];exact hp,fun l hl=>?_⟩
  obtain ⟨c,_,rfl⟩:=List.mem_map.1 hl
  have hs:=pick_sub x c
  have hl8:(pickN c x).length ≤ 8:=Nat.le_trans hs.length_le hx.1
  have flen:∀ ch:List S60,(∀ a,a ∈ ch → a.f1.length ≤ 4) → (ch.flatMap fun a=>a.f0 :: a.f1).length ≤ 5 * ch.length:=fun ch=>by
    induction ch with
    | nil=>intro _;simp
    | cons a t ih =>
      intro h
      have h1:=h a (by simp)
      have h2:=ih (fun b hb=>h b (by simp [hb]))
      rw [List.flatMap_cons,List.length_append,List.length_cons,List.length_cons]
      omega
  refine ⟨⟨(sumB_len (fun a ha=>(hx.mid a (hs.subset ha)).okL)).1,fun z hz=>?_⟩,?_,fun p hp=>?_⟩
  · have:=inB_sumB (d:=d) (fun a ha=>(hx.2 a (hs.subset ha)).1) z hz
    omega
  · have:=flen (pickN c x) (fun a ha=>(hx.2 a (hs.subset ha)).2.1)
    show ((pickN c x).flatMap fun a=>a.f0 :: a.f1).length ≤ 1000
    omega
  · obtain ⟨a,ha,hp⟩:=List.mem_flatMap.1 hp
    have:=hx.2 a (hs.subset ha)
    rcases List.mem_cons.1 hp with rfl|hp
    · exact this.1.mono (by decide)
    · exact (this.2.2 p hp).mono (by decide)
theorem sum_mid {d:Nat} {x y:List S60} (hx:okSet d x) (hy:okSet d y):(sumL x y).length ≤ 64∧∀ l,l ∈ sumL x y → midL d l:=by
  constructor
  · have:∀ x:List S60,(sumL x y).length=x.length * y.length:=fun x=>by
      induction x with
      | nil=>simp [sumL]
      | cons a x ih =>
        unfold sumL at ih ⊢
        rw [List.flatMap_cons,List.length_append,List.length_map,ih,List.length_cons,Nat.add_mul]
        omega
    rw [this]
    exact Nat.mul_le_mul hx.1 hy.1
  · intro l hl
    obtain ⟨a,ha,hl⟩:=List.mem_flatMap.1 hl
    obtain ⟨b,hb,rfl⟩:=List.mem_map.1 hl
    have h1:=hx.2 a ha
    have h2:=hy.2 b hb
    refine ⟨⟨addV_len h1.1.1 h2.1.1,fun z hz=>?_⟩,?_,fun p hp=>?_⟩
    · have:=inB_addV h1.1.2 h2.1.2 z hz
      omega
    · show (a.f1 ++ b.f1).length ≤ 1000
      rw [List.length_append];omega
    · rcases List.mem_append.1 hp with hp|hp
      · exact (h1.2.2 p hp).mono (by decide)
      · exact (h2.2.2 p hp).mono (by decide)
end Go.Proofs.Ytkonljiembcdlaa.Pure
/- Well-formed expressions run to one value, in plain Lean. -/
namespace Go.Proofs.Mach
variable {M:Type} (letter:Int → Option M) (join either:M → M → Option M) (star:M → Option M)
def hts:List UInt8 → Nat → Option Nat
  | [],n=>some n
  | c :: r,n =>
    if c=97 ∨ c=98 ∨ c=99 ∨ c=101 then hts r (n + 1)
    else if c=46 ∨ c=43 then (if 2 ≤ n then hts r (n - 1) else none)
    else if c=42 then (if 1 ≤ n then hts r n else none)
    else none
theorem hts_app:∀ (p r:List UInt8) (n m:Nat),hts p n=some m → hts (p ++ r) n=hts r m
  | [],r,n,m,h=>by
    rw [hts] at h
    rw [List.nil_append,Option.some.inj h]
  | c :: p,r,n,m,h=>by
    rw [hts] at h
    rw [List.cons_append,hts]
    split
    · rename_i h1
      rw [if_pos h1] at h
      exact hts_app p r _ m h
    · rename_i h1
      rw [if_neg h1] at h
      split
      · rename_i h2
        rw [if_pos h2] at h
        split
        · rename_i h3
          rw [if_pos h3] at h
          exact hts_app p r _ m h
        · rename_i h3
          rw [if_neg h3] at h
          cases h
      · rename_i h2
        rw [if_neg h2] at h
        split
        · rename_i h3
          rw [if_pos h3] at h
          split
          · rename_i h4
            rw [if_pos h4] at h
            exact hts_app p r _ m h
          · rename_i h4
            rw [if_neg h4] at h
            cases h
        · rename_i h3
          rw [if_neg h3] at h
          cases h
structure Total (G:M → Prop):Prop where
  l:∀ i,(i=0 ∨ i=1 ∨ i=2 ∨ i=-1) → ∃ x,letter i=some x∧G x
  j:∀ a b,G a → G b → ∃ x,join a b=some x∧G x
  e:∀ a b,G a → G b → ∃ x,either a b=some x∧G x
  s:∀ a,G a → ∃ x,star a=some x∧G x
theorem run_pre {G:M → Prop} (T:Total letter join either star G):∀ (p:List UInt8) (n m:Nat) (xs:List M),hts p n=some m → xs.length=n → (∀ x,x ∈ xs → G x) →
    ∃ ys:List M,ys.length=m∧(∀ y,y ∈ ys → G y)∧∀ (st:List M) (r:List UInt8),run letter join either star (p ++ r) (st ++ xs)=run letter join either star r (st ++ ys)
  | [],n,m,xs,h,hl,hG=>by
    rw [hts] at h
    exact ⟨xs,hl.trans (Option.some.inj h),hG,fun st r=>rfl⟩
  | c :: p,n,m,xs,h,hl,hG=>by
    rw [hts] at h
    have good2:∀ (s:List M) (x:M),(∀ y,y ∈ s → G y) → G x → ∀ y,y ∈ s ++ [x] → G y:=fun s x hs hx y hy=>by
      rcases List.mem_append.1 hy with h|h
      · exact hs y h
      · obtain rfl:y=x:=by simpa using h
        exact hx
    by_cases h1:c=97 ∨ c=98 ∨ c=99 ∨ c=101
    · rw [if_pos h1] at h
      obtain ⟨i,hi,hci⟩:∃ i:Int,(i=0 ∨ i=1 ∨ i=2 ∨ i=-1)∧(c=97∧i=0 ∨ c=98∧i=1 ∨ c=99∧i=2 ∨ c=101∧i=-1):=by
        rcases h1 with rfl|rfl|rfl|rfl
        · exact ⟨0,by simp,by simp⟩
        · exact ⟨1,by simp,by simp⟩
        · exact ⟨2,by simp,by simp⟩
        · exact ⟨-1,by simp,by simp⟩
      obtain ⟨x,hx,gx⟩:=T.l i hi
      obtain ⟨ys,e1,e2,e3⟩:=run_pre T p (n + 1) m (xs ++ [x]) h (by simp [hl]) (good2 xs x hG gx)
      refine ⟨ys,e1,e2,fun st r=>?_⟩
      rw [List.cons_append,run,step_letter _ _ _ _ hci,hx]
      have:=e3 st r
      rw [← List.append_assoc] at this
      exact this
    · rw [if_neg h1] at h
      by_cases h2:c=46 ∨ c=43
      · rw [if_pos h2] at h
        by_cases h3:2 ≤ n
        · rw [if_pos h3] at h
          obtain ⟨s,a,b,rfl⟩:=last_two (st:=xs) (by omega)
          have hs:∀ y,y ∈ s → G y:=fun y hy=>hG y (by simp [hy])
          have ga:G a:=hG a (by simp)
          have gb:G b:=hG b (by simp)
          rcases h2 with rfl|rfl
          · obtain ⟨x,hx,gx⟩:=T.j a b ga gb
            obtain ⟨ys,e1,e2,e3⟩:=run_pre T p (n - 1) m (s ++ [x]) h (by simp at hl ⊢;omega) (good2 s x hs gx)
            refine ⟨ys,e1,e2,fun st r=>?_⟩
            rw [List.cons_append,run,← List.append_assoc,step_dot,hx]
            have:=e3 st r
            rw [← List.append_assoc] at this
            exact this
          · obtain ⟨x,hx,gx⟩:=T.e a b ga gb
            obtain ⟨ys,e1,e2,e3⟩:=run_pre T p (n - 1) m (s ++ [x]) h (by simp at hl ⊢;omega) (good2 s x hs gx)
            refine ⟨ys,e1,e2,fun st r=>?_⟩
            rw [List.cons_append,run,← List.append_assoc,step_plus,hx]
            have:=e3 st r
            rw [← List.append_assoc] at this
            exact this
        · rw [if_neg h3] at h
          cases h
      · rw [if_neg h2] at h
        by_cases h3:c=42
        · rw [if_pos h3] at h
          subst h3
          by_cases h4:1 ≤ n
          · rw [if_pos h4] at h
            obtain ⟨s,a,rfl⟩:=last_one (st:=xs) (by omega)
            have hs:∀ y,y ∈ s → G y:=fun y hy=>hG y (by simp [hy])
            have ga:G a:=hG a (by simp)
            obtain ⟨x,hx,gx⟩:=T.s a ga
            obtain ⟨ys,e1,e2,e3⟩:=run_pre T p n m (s ++ [x]) h (by simpa using hl) (good2 s x hs gx)
            refine ⟨ys,e1,e2,fun st r=>?_⟩
            rw [List.cons_append,run,← List.append_assoc,step_star,hx]
            have:=e3 st r
            rw [← List.append_assoc] at this
            exact this
          · rw [if_neg h4] at h
            cases h
        · rw [if_neg h3] at h
          cases h
theorem run_one {G:M → Prop} (T:Total letter join either star G) {p:List UInt8} (h:hts p 0=some 1):∃ X,G X∧∀ (st:List M) (r:List UInt8),run letter join either star (p ++ r) st=run letter join either star r (st ++ [X]):=by
  obtain ⟨ys,e1,e2,e3⟩:=run_pre letter join either star T p 0 1 [] h rfl (fun x hx=>by simp at hx)
  obtain ⟨X,rfl⟩:=List.length_eq_one_iff.1 e1
  refine ⟨X,e2 X (by simp),fun st r=>?_⟩
  have:=e3 st r
  rwa [List.append_nil] at this
end Go.Proofs.Mach
/- Accepts of well-formed expressions, in plain Lean. -/
namespace Go.Proofs.Ytkonljiembcdlaa.PC
open Go.Proofs.MyWords Go.RowKit Go.Proofs.YtkonljiembcdlaaW.PrintWords Go.Proofs.YtkonljiembcdlaaW.PrintLast Go.Proofs.YtkonljiembcdlaaW.PrintMore
set_option linter.unusedVariables false
set_option linter.unusedSimpArgs false
def GoodL (m:FoundW.V3) (L:List FoundW.V3):Prop:=L.Nodup∧∀ s,s ∈ L → good3 m s
theorem GoodL.len {m:FoundW.V3} {L:List FoundW.V3} (hm:mok m) (h:GoodL m L):L.length ≤ 729:=by
  rw [← boxL_len]
  exact nodup_len3 L boxL h.1 (fun s hs=>mem_boxL ((h.2 s hs).mok hm))
theorem fStar_some (m:FoundW.V3) (hm:mok m) (A:List FoundW.V3) (hA:GoodL m A):∀ (n k:Nat) (O:List FoundW.V3),GoodL m O → 729 - O.length ≤ n → n < k → ∃ r,fStar m A k O=some r∧GoodL m r
  | n,0,O,hO,hn,hk=>by omega
  | n,k + 1,O,hO,hn,hk=>by
    rw [fStar]
    by_cases h:(fBoth O (fJoin m O A)).length=O.length
    · exact ⟨O,by rw [if_pos h],hO⟩
    · rw [if_neg h]
      have hN:GoodL m (fBoth O (fJoin m O A)):=⟨dd_nodup _,fBoth_good hO.2 (fJoin_good hO.2 hA.2)⟩
      have h1:=fBoth_len O (fJoin m O A) hO.1
      have h2:=hN.len hm
      match n,hn,hk with
      | 0,hn,hk=>omega
      | n + 1,hn,hk=>exact fStar_some m hm A hA n k _ hN (by omega) (by omega)
theorem runF_total (m:FoundW.V3) (hm:mok m) (k:Nat) (hk:730 ≤ k):Mach.Total (fun i=>some (fLetter m i)) (fun a b=>some (fJoin m a b)) (fun a b=>some (fBoth a b)) (fun a=>fStar m a k [(0,0,0)]) (GoodL m) where
  l:=fun i _=>⟨_,rfl,by
    refine ⟨?_,fLetter_good m i⟩
    unfold fLetter
    exact List.Sublist.nodup (List.filter_sublist) (by simp)⟩
  j:=fun a b ha hb=>⟨_,rfl,dd_nodup _,fJoin_good ha.2 hb.2⟩
  e:=fun a b ha hb=>⟨_,rfl,dd_nodup _,fBoth_good ha.2 hb.2⟩
  s:=fun a ha=>fStar_some m hm a ha 729 k _ ⟨by simp,zero_good hm⟩ (by omega) (by omega)
theorem mok_v3 {l:List Int} (hl:l.length=3) (hv:∀ x,x ∈ l → 0 ≤ x∧x ≤ 8):mok (v3of l):=by
  match l,hl with
  | [a,b,c],_=>exact ⟨hv a (by simp),hv b (by simp),hv c (by simp)⟩
end Go.Proofs.Ytkonljiembcdlaa.PC
/- What an expression says, and machines that do the same with values of some kind, in plain Lean. -/
set_option linter.unusedVariables false
namespace Go.Proofs.Mach
open Go.RowKit Go.Proofs.YtkonljiembcdlaaW.PrintWords Go.Proofs.Ytkonljiembcdlaa.Pure
inductive Ex|l (i:Int)|j (a b:Ex)|e (a b:Ex)|s (a:Ex)
def Ex.size:Ex → Nat
  | .l _=>1
  | .j a b=>a.size + b.size + 1
  | .e a b=>a.size + b.size + 1
  | .s a=>a.size + 1
def sizes (es:List Ex):Nat:=(es.map Ex.size).sum
theorem sizes_app (s t:List Ex):sizes (s ++ t)=sizes s + sizes t:=by unfold sizes;simp
def runX:List UInt8 → List Ex → Option (Option Ex):=run (fun i=>some (Ex.l i)) (fun a b=>some (Ex.j a b)) (fun a b=>some (Ex.e a b)) (fun a=>some (Ex.s a))
inductive Rel2 {A B:Type} (R:A → B → Prop):List A → List B → Prop
  | nil:Rel2 R [] []
  | cons {a b s t}:R a b → Rel2 R s t → Rel2 R (a :: s) (b :: t)
section
variable {A B:Type} {R:A → B → Prop}
theorem Rel2.len {s:List A} {t:List B} (h:Rel2 R s t):s.length=t.length:=by
  induction h with
  | nil=>rfl
  | cons _ _ ih=>simp [ih]
theorem Rel2.snoc {s:List A} {t:List B} {a:A} {b:B} (h:Rel2 R s t) (hr:R a b):Rel2 R (s ++ [a]) (t ++ [b]):=by
  induction h with
  | nil=>exact .cons hr .nil
  | cons h1 _ ih=>exact .cons h1 ih
theorem Rel2.last:∀ {s:List A} {t:List B} {a:A},Rel2 R (s ++ [a]) t → ∃ t' b,t=t' ++ [b]∧Rel2 R s t'∧R a b
  | [],_,a,.cons h .nil=>⟨[],_,rfl,.nil,h⟩
  | x :: s,_,a,.cons h r=>by
    obtain ⟨t',b,rfl,h1,h2⟩:=Rel2.last r
    exact ⟨_ :: t',b,rfl,.cons h h1,h2⟩
theorem Rel2.last2 {s:List A} {t:List B} {a a':A} (h:Rel2 R (s ++ [a,a']) t):∃ t' b b',t=t' ++ [b,b']∧Rel2 R s t'∧R a b∧R a' b':=by
  have h1:Rel2 R ((s ++ [a]) ++ [a']) t:=by simpa using h
  obtain ⟨t1,b',rfl,h2,h3⟩:=h1.last
  obtain ⟨t2,b,rfl,h4,h5⟩:=h2.last
  exact ⟨t2,b,b',by simp,h4,h5,h3⟩
theorem Rel2.mono {R':A → B → Prop} {s:List A} {t:List B} (h:Rel2 R s t) (hr:∀ a b,R a b → R' a b):Rel2 R' s t:=by
  induction h with
  | nil=>exact .nil
  | cons h1 _ ih=>exact .cons (hr _ _ h1) ih
end
section
variable {M:Type} (letter:Nat → Int → Option M) (join either:Nat → M → M → Option M) (star:Nat → M → Option M)
structure Sim (N:Nat) (R:Ex → M → Prop):Prop where
  l:∀ i,(i=0 ∨ i=1 ∨ i=2 ∨ i=-1) → ∃ x,Ev (fun k=>letter k i) x∧R (.l i) x
  j:∀ a b x y,a.size + b.size + 1 ≤ N → R a x → R b y → ∃ z,Ev (fun k=>join k x y) z∧R (.j a b) z
  e:∀ a b x y,a.size + b.size + 1 ≤ N → R a x → R b y → ∃ z,Ev (fun k=>either k x y) z∧R (.e a b) z
  s:∀ a x,a.size + 1 ≤ N → R a x → ∃ z,Ev (fun k=>star k x) z∧R (.s a) z
def Told (R:Ex → M → Prop) (c:List UInt8) (xs:List M):Option Ex → Prop
  | none=>Ev (fun k=>run (letter k) (join k) (either k) (star k) c xs) none
  | some e=>∃ x,Ev (fun k=>run (letter k) (join k) (either k) (star k) c xs) (some x)∧R e x
theorem signs7 (c:UInt8):c=97 ∨ c=98 ∨ c=99 ∨ c=101 ∨ c=46 ∨ c=43 ∨ c=42 ∨ (c ≠ 97∧c ≠ 98∧c ≠ 99∧c ≠ 101∧c ≠ 46∧c ≠ 43∧c ≠ 42):=by
  by_cases h1:c=97
  · exact .inl h1
  by_cases h2:c=98
  · exact .inr (.inl h2)
  by_cases h3:c=99
  · exact .inr (.inr (.inl h3))
  by_cases h4:c=101
  · exact .inr (.inr (.inr (.inl h4)))
  by_cases h5:c=46
  · exact .inr (.inr (.inr (.inr (.inl h5))))
  by_cases h6:c=43
  · exact .inr (.inr (.inr (.inr (.inr (.inl h6)))))
  by_cases h7:c=42
  · exact .inr (.inr (.inr (.inr (.inr (.inr (.inl h7))))))
  · exact .inr (.inr (.inr (.inr (.inr (.inr (.inr ⟨h1,h2,h3,h4,h5,h6,h7⟩))))))
variable {letter join either star}
theorem Told.go {R:Ex → M → Prop} {c:UInt8} {r:List UInt8} {xs ys:List M} {o:Option Ex} (hs:Ev (fun k=>step (letter k) (join k) (either k) (star k) c xs) (some ys)) (h:Told letter join either star R r ys o):Told letter join either star R (c :: r) xs o:=by
  have key:∀ q,Ev (fun k=>run (letter k) (join k) (either k) (star k) r ys) q → Ev (fun k=>run (letter k) (join k) (either k) (star k) (c :: r) xs) q:=fun q hq=>by
    obtain ⟨K1,h1⟩:=hs
    obtain ⟨K2,h2⟩:=hq
    refine ⟨K1 + K2,fun k hk=>?_⟩
    have e1:=h1 k (by omega)
    have e2:=h2 k (by omega)
    simp only at e1 e2 ⊢
    rw [run,e1]
    exact e2
  cases o with
  | none=>exact key _ h
  | some e =>
    obtain ⟨x,h1,h2⟩:=h
    exact ⟨x,key _ h1,h2⟩
theorem Told.stop {R:Ex → M → Prop} {c:UInt8} {r:List UInt8} {xs:List M} (hs:∀ k,step (letter k) (join k) (either k) (star k) c xs=some none):Told letter join either star R (c :: r) xs none :=
  ⟨0,fun k _=>by simp only;rw [run,hs k];rfl⟩
theorem sim {N:Nat} {R:Ex → M → Prop} (S:Sim letter join either star N R):∀ (c:List UInt8) (es:List Ex) (xs:List M),sizes es + c.length ≤ N → Rel2 R es xs → ∃ o,runX c es=some o∧Told letter join either star R c xs o
  | [],es,xs,hz,h=>by
    match es,xs,h with
    | [],[],_=>exact ⟨none,rfl,0,fun _ _=>rfl⟩
    | [e],[x],.cons h .nil=>exact ⟨some e,rfl,x,⟨0,fun _ _=>rfl⟩,h⟩
    | e :: e' :: es,x :: x' :: xs,_=>exact ⟨none,rfl,0,fun _ _=>rfl⟩
  | c :: r,es,xs,hz,h=>by
    have up:∀ {es':List Ex} {ys:List M},sizes es' + r.length ≤ N → runX (c :: r) es=runX r es' → Ev (fun k=>step (letter k) (join k) (either k) (star k) c xs) (some ys) → Rel2 R es' ys → ∃ o,runX (c :: r) es=some o∧Told letter join either star R (c :: r) xs o:=fun hz2 he hs hr=>by
      obtain ⟨o,h1,h2⟩:=sim S r _ _ hz2 hr
      exact ⟨o,he.trans h1,h2.go hs⟩
    have lt:∀ i,(c=97∧i=0 ∨ c=98∧i=1 ∨ c=99∧i=2 ∨ c=101∧i=-1) → ∃ o,runX (c :: r) es=some o∧Told letter join either star R (c :: r) xs o:=fun i hi=>by
      obtain ⟨x,⟨K,hK⟩,hx⟩:=S.l i (by rcases hi with h|h|h|h <;> simp [h.2])
      refine up (es':=es ++ [.l i]) (ys:=xs ++ [x]) (by rw [sizes_app];simp [sizes,Ex.size] at hz ⊢;omega) ?_ ⟨K,fun k hk=>?_⟩ (h.snoc hx)
      · unfold runX;rw [run,step_letter _ _ _ _ hi];rfl
      · have e:=hK k hk
        simp only at e ⊢
        rw [step_letter _ _ _ _ hi,e];rfl
    have few:(c=46 ∨ c=43)∧es.length < 2 ∨ c=42∧es.length < 1 → ∃ o,runX (c :: r) es=some o∧Told letter join either star R (c :: r) xs o:=fun hf=>by
      refine ⟨none,?_,Told.stop (fun k=>step_few _ _ _ _ (by rw [← h.len];exact hf))⟩
      unfold runX;rw [run,step_few _ _ _ _ hf];rfl
    rcases signs7 c with rfl|rfl|rfl|rfl|rfl|rfl|rfl|ho
    · exact lt 0 (by simp)
    · exact lt 1 (by simp)
    · exact lt 2 (by simp)
    · exact lt (-1) (by simp)
    · by_cases h2:2 ≤ es.length
      · obtain ⟨s,a,b,rfl⟩:=last_two h2
        obtain ⟨t,x,y,rfl,hr,hx,hy⟩:=h.last2
        have hz2:sizes s + (a.size + b.size) + (r.length + 1) ≤ N:=by rw [sizes_app] at hz;simpa [sizes] using hz
        obtain ⟨z,⟨K,hK⟩,hz⟩:=S.j a b x y (by omega) hx hy
        refine up (es':=s ++ [.j a b]) (ys:=t ++ [z]) (by rw [sizes_app];simp [sizes,Ex.size] at hz2 ⊢;omega) ?_ ⟨K,fun k hk=>?_⟩ (hr.snoc hz)
        · unfold runX;rw [run,step_dot];rfl
        · have e:=hK k hk
          simp only at e ⊢
          rw [step_dot,e];rfl
      · exact few (by simp;omega)
    · by_cases h2:2 ≤ es.length
      · obtain ⟨s,a,b,rfl⟩:=last_two h2
        obtain ⟨t,x,y,rfl,hr,hx,hy⟩:=h.last2
        have hz2:sizes s + (a.size + b.size) + (r.length + 1) ≤ N:=by rw [sizes_app] at hz;simpa [sizes] using hz
        obtain ⟨z,⟨K,hK⟩,hz⟩:=S.e a b x y (by omega) hx hy
        refine up (es':=s ++ [.e a b]) (ys:=t ++ [z]) (by rw [sizes_app];simp [sizes,Ex.size] at hz2 ⊢;omega) ?_ ⟨K,fun k hk=>?_⟩ (hr.snoc hz)
        · unfold runX;rw [run,step_plus];rfl
        · have e:=hK k hk
          simp only at e ⊢
          rw [step_plus,e];rfl
      · exact few (by simp;omega)
    · by_cases h2:1 ≤ es.length
      · obtain ⟨s,a,rfl⟩:=last_one h2
        obtain ⟨t,x,rfl,hr,hx⟩:=h.last
        have hz2:sizes s + a.size + (r.length + 1) ≤ N:=by rw [sizes_app] at hz;simpa [sizes] using hz
        obtain ⟨z,⟨K,hK⟩,hz⟩:=S.s a x (by omega) hx
        refine up (es':=s ++ [.s a]) (ys:=t ++ [z]) (by rw [sizes_app];simp [sizes,Ex.size] at hz2 ⊢;omega) ?_ ⟨K,fun k hk=>?_⟩ (hr.snoc hz)
        · unfold runX;rw [run,step_star];rfl
        · have e:=hK k hk
          simp only at e ⊢
          rw [step_star,e];rfl
      · exact few (.inr ⟨rfl,by omega⟩)
    · refine ⟨none,?_,Told.stop (fun k=>step_other _ _ _ _ ho)⟩
      unfold runX;rw [run,step_other _ _ _ _ ho];rfl
end
end Go.Proofs.Mach
/- What an expression's image is: a set of vectors; and what Accepts' machine has of it. -/
namespace Go.Proofs.Ytkonljiembcdlaa.PC
open Go.Proofs.MyWords Go.RowKit Go.Proofs.YtkonljiembcdlaaW.PrintWords Go.Proofs.YtkonljiembcdlaaW.PrintLast Go.Proofs.YtkonljiembcdlaaW.PrintMore
open Go.Proofs.Mach (Ex)
set_option linter.unusedVariables false
set_option linter.unusedSimpArgs false
inductive StarP (P:FoundW.V3 → Prop):FoundW.V3 → Prop
  | zero:StarP P (0,0,0)
  | add {x y}:P x → StarP P y → StarP P (add3 y x)
def den:Ex → FoundW.V3 → Prop
  | .l i=>fun v=>v=unit3 i
  | .j a b=>fun v=>∃ x y,den a x∧den b y∧v=add3 x y
  | .e a b=>fun v=>den a v ∨ den b v
  | .s a=>StarP (den a)
def nn3 (s:FoundW.V3):Prop:=0 ≤ s.1∧0 ≤ s.2.1∧0 ≤ s.2.2
theorem nn_add {x y:FoundW.V3} (h:nn3 x) (k:nn3 y):nn3 (add3 x y):=by
  obtain ⟨h1,h2,h3⟩:=h
  obtain ⟨k1,k2,k3⟩:=k
  unfold add3
  exact ⟨by simp only;omega,by simp only;omega,by simp only;omega⟩
theorem nn_star {P:FoundW.V3 → Prop} (hP:∀ v,P v → nn3 v):∀ v,StarP P v → nn3 v:=fun v h=>by
  induction h with
  | zero=>exact ⟨by decide,by decide,by decide⟩
  | add h1 _ ih=>exact nn_add ih (hP _ h1)
theorem nn_den:∀ (e:Ex) (v:FoundW.V3),den e v → nn3 v
  | .l i,v,h=>by
    obtain rfl:v=unit3 i:=h
    unfold unit3
    exact ⟨by simp only;split <;> omega,by simp only;split <;> omega,by simp only;split <;> omega⟩
  | .j a b,v,⟨x,y,h1,h2,e⟩=>by
    rw [e]
    exact nn_add (nn_den a x h1) (nn_den b y h2)
  | .e a b,v,.inl h=>nn_den a v h
  | .e a b,v,.inr h=>nn_den b v h
  | .s a,v,h=>nn_star (nn_den a) v h
theorem box_iff {m s:FoundW.V3}:inBox m s=true ↔ (s.1 ≤ m.1∧s.2.1 ≤ m.2.1∧s.2.2 ≤ m.2.2):=by
  unfold inBox
  exact decide_eq_true_iff
theorem box_left {m x y:FoundW.V3} (hx:nn3 x) (hy:nn3 y) (h:inBox m (add3 x y)=true):inBox m x=true∧inBox m y=true:=by
  rw [box_iff] at h ⊢
  rw [box_iff]
  obtain ⟨h1,h2,h3⟩:=hx
  obtain ⟨k1,k2,k3⟩:=hy
  unfold add3 at h
  simp only at h
  omega
def RF (m:FoundW.V3) (e:Ex) (L:List FoundW.V3):Prop:=GoodL m L∧∀ s,s ∈ L ↔ den e s∧inBox m s=true
theorem len_closed {O N:List FoundW.V3} (hO:O.Nodup) (h:(fBoth O N).length=O.length):∀ s,s ∈ N → s ∈ O:=fun s hs=>by
  by_cases hi:s ∈ O
  · exact hi
  · exfalso
    have:=nodup_len3 (s :: O) (fBoth O N) (List.nodup_cons.2 ⟨hi,hO⟩) (fun x hx=>by
      rcases List.mem_cons.1 hx with rfl|hx
      · exact mem_fBoth.2 (.inr hs)
      · exact mem_fBoth.2 (.inl hx))
    rw [h] at this
    simp at this
    omega
theorem fStar_spec (m:FoundW.V3) (A:List FoundW.V3) (P:FoundW.V3 → Prop) (hA:∀ s,s ∈ A → P s):∀ (k:Nat) (O r:List FoundW.V3),O.Nodup → (∀ s,s ∈ O → StarP P s) → fStar m A k O=some r → (∀ s,s ∈ r → StarP P s)∧(∀ s,s ∈ O → s ∈ r)∧∀ s,s ∈ fJoin m r A → s ∈ r
  | 0,O,r,_,_,h=>by simp [fStar] at h
  | k + 1,O,r,hn,hO,h=>by
    rw [fStar] at h
    have hN:∀ s,s ∈ fBoth O (fJoin m O A) → StarP P s:=fun s hs=>by
      rcases mem_fBoth.1 hs with h|h
      · exact hO s h
      · obtain ⟨⟨v,hv,u,hu,rfl⟩,_⟩:=mem_fJoin.1 h
        exact .add (hA u hu) (hO v hv)
    split at h
    · rename_i hl
      obtain rfl:=Option.some.inj h
      exact ⟨hO,fun s hs=>hs,len_closed hn hl⟩
    · obtain ⟨h1,h2,h3⟩:=fStar_spec m A P hA k _ r (dd_nodup _) hN h
      exact ⟨h1,fun s hs=>h2 s (mem_fBoth.2 (.inl hs)),h3⟩
theorem simF (m:FoundW.V3) (hm:mok m) (N:Nat):Mach.Sim (fun _ i=>some (fLetter m i)) (fun _ a b=>some (fJoin m a b)) (fun _ a b=>some (fBoth a b)) (fun k a=>fStar m a k [(0,0,0)]) N (RF m) where
  l:=fun i hi=>by
    obtain ⟨x,hx,gx⟩:=(runF_total m hm 730 (Nat.le_refl _)).l i hi
    obtain rfl:=Option.some.inj hx
    refine ⟨_,⟨0,fun _ _=>rfl⟩,gx,fun s=>?_⟩
    unfold fLetter
    rw [List.mem_filter,List.mem_singleton]
    exact Iff.rfl
  j:=fun a b x y _ hx hy=>by
    refine ⟨_,⟨0,fun _ _=>rfl⟩,⟨dd_nodup _,fJoin_good hx.1.2 hy.1.2⟩,fun s=>?_⟩
    rw [mem_fJoin]
    constructor
    · rintro ⟨⟨v,hv,u,hu,rfl⟩,h⟩
      exact ⟨⟨v,u,((hx.2 v).1 hv).1,((hy.2 u).1 hu).1,rfl⟩,h⟩
    · rintro ⟨⟨v,u,hv,hu,rfl⟩,h⟩
      have:=box_left (nn_den _ _ hv) (nn_den _ _ hu) h
      exact ⟨⟨v,(hx.2 v).2 ⟨hv,this.1⟩,u,(hy.2 u).2 ⟨hu,this.2⟩,rfl⟩,h⟩
  e:=fun a b x y _ hx hy=>by
    refine ⟨_,⟨0,fun _ _=>rfl⟩,⟨dd_nodup _,fBoth_good hx.1.2 hy.1.2⟩,fun s=>?_⟩
    rw [mem_fBoth,hx.2,hy.2]
    show _ ↔ (den a s ∨ den b s)∧_
    constructor
    · rintro (h|h)
      · exact ⟨.inl h.1,h.2⟩
      · exact ⟨.inr h.1,h.2⟩
    · rintro ⟨h|h,h2⟩
      · exact .inl ⟨h,h2⟩
      · exact .inr ⟨h,h2⟩
  s:=fun a x _ hx=>by
    obtain ⟨r,hr,gr⟩:=fStar_some m hm x hx.1 729 730 _ ⟨by simp,zero_good hm⟩ (by omega) (by omega)
    refine ⟨r,Ev.of (fun k=>fStar.mono m x k _) hr,gr,fun s=>?_⟩
    obtain ⟨h1,h2,h3⟩:=fStar_spec m x (den a) (fun s hs=>((hx.2 s).1 hs).1) 730 _ r (by simp) (fun s hs=>by
      obtain rfl:s=(0,0,0):=by simpa using hs
      exact .zero) hr
    constructor
    · exact fun hs=>⟨h1 s hs,(gr.2 s hs).2⟩
    · rintro ⟨hs,hb⟩
      have:∀ v,StarP (den a) v → inBox m v=true → v ∈ r:=fun v hv=>by
        induction hv with
        | zero=>exact fun _=>h2 _ (by simp)
        | @add p q hp hq ih =>
          intro hb
          have hb2:=box_left (nn_star (nn_den a) _ hq) (nn_den a _ hp) hb
          exact h3 _ (mem_fJoin.2 ⟨⟨q,ih hb2.1,p,(hx.2 p).2 ⟨hp,hb2.2⟩,rfl⟩,hb⟩)
      exact this s hs hb
theorem runF_den (m:FoundW.V3) (hm:mok m) (c:List UInt8):∃ o,Mach.runX c []=some o∧match o with
    | none=>Ev (fun k=>runF k m c []) none
    | some e=>∃ L,Ev (fun k=>runF k m c []) (some L)∧RF m e L:=by
  obtain ⟨o,h1,h2⟩:=Mach.sim (simF m hm c.length) c [] [] (by simp [Mach.sizes]) .nil
  refine ⟨o,h1,?_⟩
  cases o with
  | none=>exact h2
  | some e=>exact h2
end Go.Proofs.Ytkonljiembcdlaa.PC
/- What Image's machine has of an expression's image, in plain Lean. -/
set_option linter.unusedVariables false
set_option linter.unusedSimpArgs false
namespace Go.Proofs.Ytkonljiembcdlaa.Pure
open Go.RowKit Go.Proofs.MyWords Go.Proofs.YtkonljiembcdlaaW.PrintWords Go.Proofs.YtkonljiembcdlaaW.PrintLast Go.Proofs.YtkonljiembcdlaaW.PrintMore Go.Proofs.Ytkonljiembcdlaa.PC Go.Proofs.Ytkonljiembcdlaa.Sem
open Go.Proofs.Mach (Ex)
theorem checkS_ev {d:Nat} (hd:d ≤ 3) {s:List S60} (h1:s.length < 1000000) (h2:∀ l,l ∈ s → midL d l):Ev (fun k=>count_check.f k (d:Int) [s]) (chk (d:Int) [s]) :=
  check_ev _ _ (by unfold short;simp) (fun t ht=>by
    obtain rfl:t=s:=by simpa using ht
    exact ⟨by unfold short;omega,fun l hl=>by have:=(h2 l hl).2.1;unfold short;omega⟩)
theorem full_ev {s:List S60} (h1:s.length < 1000000) (h2:∀ l,l ∈ s → midL 3 l):∃ t,Ev (fun k=>count_full.f k 3 s) (t,if chk 3 [s]=0 then 0 else 7):=by
  have:=checkS_ev (d:=3) (Nat.le_refl 3) h1 h2
  unfold count_full.f
  by_cases h:chk 3 [s]=0
  · rw [if_pos h]
    exact ⟨s,Ev.bind this (Ev.pos h (Ev.now _))⟩
  · rw [if_neg h]
    exact ⟨[],Ev.bind this (Ev.neg h (Ev.now _))⟩
theorem rdT102_app (pre:List S102) (x:S102) (t:List S102):rd_T102 (pre ++ x :: t) (pre.length:Int)=x:=getD_app _ _ _ _
theorem valid_go {s:List S60} (h1:s.length < 1000000) (h2:∀ l,l ∈ s → midL 3 l):∀ (t pre:List S102) (b:Bool),(pre ++ t).length < 1000000 →
    Ev (fun k=>count_valid.l0 k s (pre ++ t) ((pre ++ t).length:Int) (pre.length:Int) s b) (s,(b || t.any (·.f1)) || decide (chk 3 [s] ≠ 0))
  | [],pre,b,hl=>by
    obtain ⟨t,hf⟩:=full_ev h1 h2
    refine Ev.succ ?_
    simp only [count_valid.l0]
    refine Ev.neg (by simp) (Ev.bind hf ?_)
    rw [List.any_nil,Bool.or_false]
    by_cases h:chk 3 [s]=0
    · rw [if_pos h,decide_eq_false (by simpa using h),Bool.or_false]
      exact Ev.pos rfl (Ev.now _)
    · rw [if_neg h,decide_eq_true h,Bool.or_true]
      exact Ev.neg (by simp) (Ev.now _)
  | x :: t,pre,b,hl=>by
    have ih:=fun b=>valid_go h1 h2 t (pre ++ [x]) b (by rw [← app_snoc];exact hl)
    rw [← app_snoc,← len_snoc] at ih
    have hl2:pre.length < 1000000:=by simp at hl;omega
    refine Ev.succ ?_
    simp only [count_valid.l0,rdT102_app,wsucc (show pre.length < 4611686018427387904 by omega)]
    refine Ev.pos (lt_app _ _ _) (Ev.pos (by omega) (Ev.pos (lt_app _ _ _) ?_))
    rw [List.any_cons,← Bool.or_assoc]
    cases b
    · exact Ev.neg (by simp) (by simpa using ih x.f1)
    · exact Ev.pos rfl (by simpa using ih true)
theorem valid_ev {s:List S60} (h1:s.length < 1000000) (h2:∀ l,l ∈ s → midL 3 l) (of:List S102) (h3:of.length < 1000000):Ev (fun k=>count_valid.f k s of) (s,of.any (·.f1) || decide (chk 3 [s] ≠ 0)):=by
  have:=valid_go h1 h2 of [] false h3
  rw [Bool.false_or] at this
  exact this
def leaves:Ex → Nat
  | .l _=>1
  | .j a b=>leaves a + leaves b
  | .e a b=>leaves a + leaves b
  | .s a=>leaves a
theorem leaves_size:∀ e:Ex,2 * leaves e ≤ e.size + 1
  | .l _=>Nat.le_refl _
  | .j a b=>by have:=leaves_size a;have:=leaves_size b;simp only [leaves,Ex.size];omega
  | .e a b=>by have:=leaves_size a;have:=leaves_size b;simp only [leaves,Ex.size];omega
  | .s a=>by have:=leaves_size a;simp only [leaves,Ex.size];omega
theorem leaves_pos:∀ e:Ex,1 ≤ leaves e
  | .l _=>Nat.le_refl _
  | .j a b=>by have:=leaves_pos a;simp only [leaves];omega
  | .e a b=>by have:=leaves_pos a;simp only [leaves];omega
  | .s a=>by have:=leaves_pos a;simp only [leaves];omega
structure MidI (e:Ex) (x:Img):Prop where
  len:x.1.length ≤ 256 * leaves e
  mid:∀ l,l ∈ x.1 → midL 3 l
def imgJ (x y:Img):Img:=if x.2=true ∨ y.2=true then ([],true) else (sumL x.1 y.1,decide (chk 3 [sumL x.1 y.1] ≠ 0))
def imgE (x y:Img):Img:=(x.1 ++ y.1,(x.2 || y.2) || decide (chk 3 [x.1 ++ y.1] ≠ 0))
def imgS (x:Img):Img:=if x.2=true then x else (starL 3 x.1,decide (chk 3 [starL 3 x.1] ≠ 0))
def okI (x:Img):Prop:=x.2=false → okSet 3 x.1
theorem ok_chk {s:List S60} (h:chk 3 [s]=0):okSet 3 s:=(chk_ok.1 h).2 s (by simp)
theorem ok_of {s:List S60} {b:Bool} (h:(b || decide (chk 3 [s] ≠ 0))=false):b=false∧okSet 3 s:=by
  rw [Bool.or_eq_false_iff,decide_eq_false_iff_not,Classical.not_not] at h
  exact ⟨h.1,ok_chk h.2⟩
theorem sum_empty {x:List S60} (h:∀ l,l ∈ x → midL 3 l):sumL x [⟨List.replicate 3 0,[]⟩]=x:=by
  induction x with
  | nil=>rfl
  | cons a x ih =>
    have:=ih (fun l hl=>h l (by simp [hl]))
    unfold sumL at this ⊢
    rw [List.flatMap_cons,this]
    show [sumE a ⟨zeroN 3,[]⟩] ++ x=a :: x
    unfold sumE
    rw [addV_zero (h a (by simp)).1.1,List.append_nil]
    rfl
theorem empty_mid:∀ l,l ∈ [(⟨List.replicate 3 0,[]⟩:S60)] → midL 3 l:=fun l hl=>by
  obtain rfl:l=⟨List.replicate 3 0,[]⟩:=by simpa using hl
  exact ⟨⟨rfl,fun z hz=>by rw [List.eq_of_mem_replicate hz];decide⟩,by decide,fun p hp=>by cases hp⟩
theorem img2_ev {a b:Ex} {x y:Img} (hx:MidI a x) (hy:MidI b y) (ox:okI x) (oy:okI y):Ev (fun k=>count_Image_2.f k x.1 x.2 y.1 y.2) (imgJ x y)∧MidI (.j a b) (imgJ x y)∧okI (imgJ x y):=by
  have lp:=leaves_pos a
  have lq:=leaves_pos b
  have j0:∀ c:Bool,(c=true ↔ x.2=true ∨ y.2=true) → Ev (fun k=>count_Image_2.j0 k c x.1 x.2 y.1 y.2) (imgJ x y):=fun c hc=>by
    refine Ev.succ ?_
    simp only [count_Image_2.j0]
    unfold imgJ
    cases c
    · have hn:¬ (x.2=true ∨ y.2=true):=fun h=>by have:=hc.2 h;cases this
      rw [if_neg hn]
      have hx2:x.2=false:=by cases h:x.2 <;> simp_all
      have hy2:y.2=false:=by cases h:y.2 <;> simp_all
      have sx:=ox hx2
      have sy:=oy hy2
      have hm:=sum_mid sx sy
      refine Ev.neg (by simp) (Ev.bind (sum_ev (Nat.le_refl 3) hx.mid hy.mid (by have:=sx.1;omega) (by have:=sy.1;omega)) ?_)
      have hv:=valid_ev (s:=sumL x.1 y.1) (by have:=hm.1;omega) hm.2 [] (by simp)
      rw [List.any_nil,Bool.false_or] at hv
      exact Ev.bind hv (Ev.now _)
    · rw [if_pos (hc.1 rfl)]
      exact Ev.pos rfl (Ev.now _)
  refine ⟨?_,?_,?_⟩
  · unfold count_Image_2.f
    cases hx2:x.2
    · have h:=j0 y.2 (by simp [hx2])
      rw [hx2] at h
      exact Ev.neg (by simp) h
    · have h:=j0 true (by simp [hx2])
      rw [hx2] at h
      exact Ev.pos rfl h
  · unfold imgJ
    split
    · exact ⟨by simp,fun l hl=>by simp at hl⟩
    · rename_i hn
      have hx2:x.2=false:=by cases h:x.2 <;> simp_all
      have hy2:y.2=false:=by cases h:y.2 <;> simp_all
      have hm:=sum_mid (ox hx2) (oy hy2)
      refine ⟨?_,hm.2⟩
      have:=hm.1
      show (sumL x.1 y.1).length ≤ 256 * (leaves a + leaves b)
      omega
  · unfold imgJ
    split
    · intro h;simp at h
    · intro h
      exact (ok_of (b:=false) (by rw [Bool.false_or];exact h)).2
theorem img3_ev {a b:Ex} {x y:Img} (hx:MidI a x) (hy:MidI b y) (hs:a.size + b.size + 1 ≤ 30):Ev (fun k=>count_Image_3.f k x.1 x.2 y.1 y.2) (imgE x y)∧MidI (.e a b) (imgE x y)∧okI (imgE x y):=by
  have ha:=leaves_size a
  have hb:=leaves_size b
  have lx:=hx.len
  have ly:=hy.len
  have hm:∀ l,l ∈ x.1 ++ y.1 → midL 3 l:=fun l hl=>(List.mem_append.1 hl).elim (hx.mid l) (hy.mid l)
  refine ⟨?_,⟨?_,hm⟩,fun h=>(ok_of h).2⟩
  · have e:count_empty.f=some [⟨List.replicate 3 0,[]⟩]:=if_pos (by decide)
    unfold count_Image_3.f
    have s1:=sum_ev (Nat.le_refl 3) hx.mid empty_mid (by omega) (by simp)
    have s2:=sum_ev (Nat.le_refl 3) hy.mid empty_mid (by omega) (by simp)
    rw [sum_empty hx.mid] at s1
    rw [sum_empty hy.mid] at s2
    have hv:=valid_ev (s:=x.1 ++ y.1) (by rw [List.length_append];omega) hm [⟨x.1,x.2⟩,⟨y.1,y.2⟩] (by simp)
    have e2:([⟨x.1,x.2⟩,⟨y.1,y.2⟩]:List S102).any (·.f1)=(x.2 || y.2):=by simp
    rw [e2] at hv
    exact Ev.bindc e (Ev.bind s1 (Ev.bindc e (Ev.bind s2 (Ev.pos (by omega) (Ev.bind hv (Ev.now _))))))
  · show (x.1 ++ y.1).length ≤ 256 * (leaves a + leaves b)
    rw [List.length_append];omega
theorem img4_ev {a:Ex} {x:Img} (hx:MidI a x) (ox:okI x):Ev (fun k=>count_Image_4.f k x.1 x.2) (imgS x)∧MidI (.s a) (imgS x)∧okI (imgS x):=by
  have lp:=leaves_pos a
  unfold imgS count_Image_4.f
  cases hx2:x.2
  · have sx:=ox hx2
    have hm:=star_mid sx
    rw [if_neg (by simp)]
    have hv:=valid_ev (s:=starL 3 x.1) (by have:=hm.1;omega) hm.2 [] (by simp)
    rw [List.any_nil,Bool.false_or] at hv
    have hs:Ev (fun k=>count_star.f k 3 x.1) (starL 3 x.1):=star_ev (d:=3) (Nat.le_refl 3) x.1 sx
    refine ⟨Ev.neg (by simp) (Ev.bind hs (Ev.bind hv (Ev.now _))),⟨?_,hm.2⟩,fun h=>(ok_of (b:=false) (by rw [Bool.false_or];exact h)).2⟩
    have:=hm.1
    show (starL 3 x.1).length ≤ 256 * leaves a
    omega
  · rw [if_pos rfl]
    refine ⟨?_,⟨hx.len,hx.mid⟩,fun h=>ox h⟩
    refine Ev.pos rfl ?_
    rw [← hx2]
    exact Ev.now _
theorem l3_v3 {v:List Int} (h:v.length=3):∃ a:FoundW.V3,v=[a.1,a.2.1,a.2.2]∧v3of v=a:=by
  match v,h with
  | [a,b,c],_=>exact ⟨(a,b,c),rfl,rfl⟩
theorem v3_add {v w:List Int} (hv:v.length=3) (hw:w.length=3):v3of (addV v w)=add3 (v3of v) (v3of w):=by
  match v,w,hv,hw with
  | [a,b,c],[a',b',c'],_,_=>rfl
theorem v3_inj {v w:List Int} (hv:v.length=3) (hw:w.length=3) (h:v3of v=v3of w):v=w:=by
  obtain ⟨a,rfl,ha⟩:=l3_v3 hv
  obtain ⟨b,rfl,hb⟩:=l3_v3 hw
  rw [ha,hb] at h
  rw [h]
def semI (e:Ex) (x:Img):Prop:=x.2=false → ∀ v,InS 3 x.1 v ↔ v.length=3∧den e (v3of v)
def RI (e:Ex) (x:Img):Prop:=MidI e x∧okI x∧semI e x
theorem semJ {a b:Ex} {x y:Img} (ox:okI x) (oy:okI y) (sx:semI a x) (sy:semI b y):semI (.j a b) (imgJ x y):=by
  unfold imgJ
  split
  · intro h;simp at h
  · rename_i hn
    have hx2:x.2=false:=by cases h:x.2 <;> simp_all
    have hy2:y.2=false:=by cases h:y.2 <;> simp_all
    intro _ v
    have kx:=(ox hx2).okL
    have ky:=(oy hy2).okL
    rw [show (sumL x.1 y.1,decide (chk 3 [sumL x.1 y.1] ≠ 0)).1=sumL x.1 y.1 from rfl,inS_sum kx ky]
    constructor
    · rintro ⟨u,w,hu,hw,rfl⟩
      have h1:=(sx hx2 u).1 hu
      have h2:=(sy hy2 w).1 hw
      exact ⟨addV_len h1.1 h2.1,_,_,h1.2,h2.2,v3_add h1.1 h2.1⟩
    · rintro ⟨hv,p,q,hp,hq,e⟩
      refine ⟨[p.1,p.2.1,p.2.2],[q.1,q.2.1,q.2.2],(sx hx2 _).2 ⟨rfl,hp⟩,(sy hy2 _).2 ⟨rfl,hq⟩,?_⟩
      refine v3_inj hv rfl ?_
      rw [e];rfl
theorem semE {a b:Ex} {x y:Img} (sx:semI a x) (sy:semI b y):semI (.e a b) (imgE x y):=by
  intro h v
  have h1:=(ok_of h).1
  rw [Bool.or_eq_false_iff] at h1
  have e:InS 3 (imgE x y).1 v ↔ InS 3 x.1 v ∨ InS 3 y.1 v:=by
    constructor
    · rintro ⟨l,hl,h⟩
      rcases List.mem_append.1 hl with hl|hl
      · exact .inl ⟨l,hl,h⟩
      · exact .inr ⟨l,hl,h⟩
    · rintro (⟨l,hl,h⟩|⟨l,hl,h⟩)
      · exact ⟨l,List.mem_append_left _ hl,h⟩
      · exact ⟨l,List.mem_append_right _ hl,h⟩
  rw [e,sx h1.1,sy h1.2]
  show _ ↔ v.length=3∧(den a (v3of v) ∨ den b (v3of v))
  constructor
  · rintro (h|h)
    · exact ⟨h.1,.inl h.2⟩
    · exact ⟨h.1,.inr h.2⟩
  · rintro ⟨h,h2|h2⟩
    · exact .inl ⟨h,h2⟩
    · exact .inr ⟨h,h2⟩
theorem semS {a:Ex} {x:Img} (ox:okI x) (sx:semI a x) (hf:x.2=false):semI (.s a) (imgS x):=by
  unfold imgS
  rw [if_neg (by simp [hf])]
  intro _ v
  rw [show (starL 3 x.1,decide (chk 3 [starL 3 x.1] ≠ 0)).1=starL 3 x.1 from rfl,inS_star (ox hf).okL]
  constructor
  · intro h
    induction h with
    | zero=>exact ⟨rfl,.zero⟩
    | @add u w h1 _ ih =>
      have h2:=(sx hf u).1 h1
      exact ⟨addV_len ih.1 h2.1,by rw [v3_add ih.1 h2.1];exact .add h2.2 ih.2⟩
  · rintro ⟨hv,h⟩
    have key:∀ p,StarP (den a) p → StarV 3 (InS 3 x.1) [p.1,p.2.1,p.2.2]:=fun p hp=>by
      induction hp with
      | zero=>exact .zero
      | @add s t h1 _ ih =>
        have h2:=(sx hf [s.1,s.2.1,s.2.2]).2 ⟨rfl,h1⟩
        have e:[(add3 t s).1,(add3 t s).2.1,(add3 t s).2.2]=addV [t.1,t.2.1,t.2.2] [s.1,s.2.1,s.2.2]:=rfl
        rw [e]
        exact .add h2 ih
    have:=key _ h
    obtain ⟨p,rfl,hp⟩:=l3_v3 hv
    rw [hp] at this
    exact this
theorem semL (i:Int) (hi:i=0 ∨ i=1 ∨ i=2 ∨ i=-1):∃ x,count_Image_1.f i=some x∧RI (.l i) x:=by
  refine ⟨([⟨unitL i,[]⟩],false),if_pos (by omega),⟨by simp [leaves],fun l hl=>?_⟩,fun _=>⟨by simp,fun l hl=>?_⟩,fun _ v=>?_⟩
  · obtain rfl:l=⟨unitL i,[]⟩:=by simpa using hl
    refine ⟨⟨rfl,fun z hz=>?_⟩,by simp,fun p hp=>by simp at hp⟩
    rcases hi with rfl|rfl|rfl|rfl <;> (revert z;decide)
  · obtain rfl:l=⟨unitL i,[]⟩:=by simpa using hl
    refine ⟨⟨rfl,fun z hz=>?_⟩,by simp,fun p hp=>by simp at hp⟩
    rcases hi with rfl|rfl|rfl|rfl <;> (revert z;decide)
  · show _ ↔ v.length=3∧v3of v=unit3 i
    constructor
    · rintro ⟨l,hl,w,hw,rfl⟩
      obtain rfl:l=⟨unitL i,[]⟩:=by simpa using hl
      have hw':w=zeroN 3:=comb_nil.1 hw
      subst hw'
      show (addV (unitL i) (zeroN 3)).length=3∧v3of (addV (unitL i) (zeroN 3))=unit3 i
      rw [addV_zero (v:=unitL i) (d:=3) rfl]
      exact ⟨rfl,rfl⟩
    · rintro ⟨hv,e⟩
      refine ⟨⟨unitL i,[]⟩,by simp,zeroN 3,.zero,?_⟩
      show v=addV (unitL i) (zeroN 3)
      rw [addV_zero (v:=unitL i) (d:=3) rfl]
      exact v3_inj hv rfl (e.trans rfl)
theorem simI:Mach.Sim (fun _ i=>count_Image_1.f i) (fun k a b=>count_Image_2.f k a.1 a.2 b.1 b.2) (fun k a b=>count_Image_3.f k a.1 a.2 b.1 b.2) (fun k a=>count_Image_4.f k a.1 a.2) 30 RI where
  l:=fun i hi=>by
    obtain ⟨x,h1,h2⟩:=semL i hi
    exact ⟨x,⟨0,fun _ _=>h1⟩,h2⟩
  j:=fun a b x y _ hx hy=>by
    obtain ⟨h1,h2,h3⟩:=img2_ev hx.1 hy.1 hx.2.1 hy.2.1
    exact ⟨_,h1,h2,h3,semJ hx.2.1 hy.2.1 hx.2.2 hy.2.2⟩
  e:=fun a b x y hs hx hy=>by
    obtain ⟨h1,h2,h3⟩:=img3_ev hx.1 hy.1 hs
    exact ⟨_,h1,h2,h3,semE hx.2.2 hy.2.2⟩
  s:=fun a x _ hx=>by
    obtain ⟨h1,h2,h3⟩:=img4_ev hx.1 hx.2.1
    refine ⟨_,h1,h2,h3,?_⟩
    cases hf:x.2
    · exact semS hx.2.1 hx.2.2 hf
    · unfold imgS
      rw [if_pos hf]
      intro h
      rw [hf] at h
      cases h
theorem image_ev (s:ByteArray) (hs:s.size ≤ 30):∃ o,Mach.runX s.data.toList []=some o∧match o with
    | none=>Ev (fun k=>count_Image.f k s) ([],2)
    | some e=>∃ x,RI e x∧Ev (fun k=>count_Image.f k s) (if x.2=true then ([],7) else (x.1,0)):=by
  have hl:s.data.toList.length ≤ 30:=by simpa using hs
  obtain ⟨o,h1,h2⟩:=Mach.sim simI s.data.toList [] [] (by simpa [Mach.sizes] using hs) .nil
  refine ⟨o,h1,?_⟩
  cases o with
  | none =>
    unfold count_Image.f
    exact Ev.neg (by omega) (Ev.bind (a:=none) h2 (Ev.now _))
  | some e =>
    obtain ⟨x,hx,hr⟩:=h2
    refine ⟨x,hr,?_⟩
    unfold count_Image.f
    refine Ev.neg (by omega) (Ev.bind (a:=some x) hx ?_)
    cases hf:x.2
    · simp only [hf];exact Ev.now _
    · simp only [hf];exact Ev.now _
end Go.Proofs.Ytkonljiembcdlaa.Pure
/- The statements' measure of a long search has a value, in plain Lean. -/
set_option linter.unusedVariables false
set_option linter.unusedSimpArgs false
namespace Go.Proofs.Ytkonljiembcdlaa.Pure
open Go.RowKit Go.Proofs.MyWords Go.Proofs.YtkonljiembcdlaaW.PrintWords Go.Proofs.YtkonljiembcdlaaW.PrintLast Go.Proofs.YtkonljiembcdlaaW.PrintMore Go.Proofs.Ytkonljiembcdlaa.PC Go.Proofs.Ytkonljiembcdlaa.Sem
theorem heavy_l1 (set:List S60) (i:Int) (l:S60) (h0:0 ≤ i) (h1:i < (set.length:Int)) (hr:rd_T60 set i=l) (hl:∀ p,p ∈ l.f1 → inB 1000000 p∧p.length < 1000000) (hlen:l.f1.length < 1000000) (hn:∃ b,Ev (fun k=>bellpulllaw05_heavy.l0 k set (wrap64 (i + 1))) b) :
    ∀ (t pre:List (List Int)) (m:Int),l.f1=pre ++ t → ∃ b,Ev (fun k=>bellpulllaw05_heavy.l1 k set i m (pre.length:Int)) b
  | [],pre,m,e=>by
    have hl1:l.f1.length=pre.length:=by rw [e];simp
    by_cases hm:m > 2
    · refine ⟨true,Ev.succ ?_⟩
      simp only [bellpulllaw05_heavy.l1,hr]
      exact Ev.pos h0 (Ev.pos h1 (Ev.neg (by omega) (Ev.pos hm (Ev.now _))))
    · obtain ⟨b,hb⟩:=hn
      refine ⟨b,Ev.succ ?_⟩
      simp only [bellpulllaw05_heavy.l1,hr]
      exact Ev.pos h0 (Ev.pos h1 (Ev.neg (by omega) (Ev.neg hm hb)))
  | p :: t,pre,m,e=>by
    have hl1:l.f1.length=pre.length + (t.length + 1):=by rw [e];simp
    have hp:=hl p (by rw [e];simp)
    have ih:=fun m=>heavy_l1 set i l h0 h1 hr hl hlen hn t (pre ++ [p]) m (by rw [e];simp)
    rw [← len_snoc] at ih
    have hrd:rd_L1 l.f1 (pre.length:Int)=p:=by rw [e];exact rdL1_app _ _ _
    have tp:=refTotal_ev hp.1 hp.2
    have ws:wrap64 ((pre.length:Int) + 1)=((pre.length + 1:Nat):Int):=wsucc (by omega)
    by_cases q1:p.sum > 0
    · by_cases q2:p.sum < 3
      · obtain ⟨b,hb⟩:=ih (wrap64 (m + 1))
        refine ⟨b,Ev.succ ?_⟩
        simp only [bellpulllaw05_heavy.l1,hr,hrd,ws]
        exact Ev.pos h0 (Ev.pos h1 (Ev.pos (by omega) (Ev.pos (by omega) (Ev.bind tp (Ev.pos q1 (Ev.pos q2 hb))))))
      · obtain ⟨b,hb⟩:=ih m
        refine ⟨b,Ev.succ ?_⟩
        simp only [bellpulllaw05_heavy.l1,hr,hrd,ws]
        exact Ev.pos h0 (Ev.pos h1 (Ev.pos (by omega) (Ev.pos (by omega) (Ev.bind tp (Ev.pos q1 (Ev.neg q2 hb))))))
    · obtain ⟨b,hb⟩:=ih m
      refine ⟨b,Ev.succ ?_⟩
      simp only [bellpulllaw05_heavy.l1,hr,hrd,ws]
      exact Ev.pos h0 (Ev.pos h1 (Ev.pos (by omega) (Ev.pos (by omega) (Ev.bind tp (Ev.neg q1 hb)))))
theorem heavy_l0 (hd:Nat):∀ (t pre:List S60),(pre ++ t).length < 1000000 → (∀ l,l ∈ t → l.f1.length < 1000000∧∀ p,p ∈ l.f1 → inB 1000000 p∧p.length < 1000000) → ∃ b,Ev (fun k=>bellpulllaw05_heavy.l0 k (pre ++ t) (pre.length:Int)) b
  | [],pre,hs,h=>by
    refine ⟨false,Ev.succ ?_⟩
    simp only [bellpulllaw05_heavy.l0]
    exact Ev.neg (by simp) (Ev.now _)
  | l :: t,pre,hs,h=>by
    have ih:=heavy_l0 hd t (pre ++ [l]) (by rw [← app_snoc];exact hs) (fun x hx=>h x (by simp [hx]))
    rw [← app_snoc,← len_snoc] at ih
    have hl:=h l (by simp)
    have ws:wrap64 ((pre.length:Int) + 1)=((pre.length + 1:Nat):Int):=wsucc (by simp at hs;omega)
    obtain ⟨b,hb⟩:=heavy_l1 (pre ++ l :: t) (pre.length:Int) l (by omega) (lt_app _ _ _) (rdT60_app _ _ _) hl.2 hl.1 (by rw [ws];exact ih) l.f1 [] 0 rfl
    refine ⟨b,Ev.succ ?_⟩
    simp only [bellpulllaw05_heavy.l0]
    exact Ev.pos (lt_app _ _ _) hb
theorem heavy_ev {d:Nat} (hd:d ≤ 3) {set:List S60} (h:okSet d set):∃ b,Ev (fun k=>bellpulllaw05_heavy.f k set) b :=
  heavy_l0 d set [] (by have:=h.1;simp;omega) (fun l hl=>by
    have:=h.2 l hl
    exact ⟨by omega,fun p hp=>⟨((this.2.2 p hp).mono (n:=1000000) (by decide)).2,by have:=(this.2.2 p hp).1;omega⟩⟩)
theorem Has_ok {d:Nat} (h1:1 ≤ d) (hd:d ≤ 3) {set:List S60} (h:okSet d set) {v:List Int} (hv:okV d 60 v):∃ b,Ev (fun k=>count_Has.f k (d:Int) set v) (b,0)∧(b=true ↔ InS d set v):=by
  obtain ⟨b,hb,ib⟩:=has_ev (by omega) hv h.okL
  refine ⟨b,?_,ib⟩
  have hs:=h.shorts hd
  have hc:Ev (fun k=>count_check.f k (d:Int) [set]) 0:=by
    have:=check_ev (d:Int) [set] (by unfold short;simp) (fun t ht=>by
      obtain rfl:t=set:=by simpa using ht
      exact ⟨hs.1,fun l hl=>(hs.2 l hl).2.1.tail⟩)
    rw [chk_ok.2 ⟨by omega,fun t ht=>by
      obtain rfl:t=set:=by simpa using ht
      exact h⟩] at this
    exact this
  have ho:count_outside.f v 60=some false:=by
    unfold count_outside.f
    have:¬ (v.any fun x=>decide (x < 0) || decide (60 < x))=true:=by rw [outside_iff];exact fun h2=>h2 hv.2
    rw [Bool.not_eq_true] at this
    rw [this]
  unfold count_Has.f
  refine Ev.bind hc (Ev.neg (by decide) (Ev.neg (by decide) (Ev.bindc ho ?_)))
  refine Ev.succ ?_
  simp only [count_Has.j0]
  refine Ev.neg (by simp) (Ev.pos trivial (Ev.pos (by rw [hv.1]) (Ev.bind hb (Ev.now _))))
end Go.Proofs.Ytkonljiembcdlaa.Pure
/- What code derives is well-formed and short. -/
namespace Go.Proofs.Ytkonljiembcdlaa.PC
open Go.Proofs.MyWords Go.RowKit Go.Proofs.YtkonljiembcdlaaW.PrintWords Go.Proofs.YtkonljiembcdlaaW.PrintLast Go.Proofs.YtkonljiembcdlaaW.PrintMore
set_option linter.unusedVariables false
set_option linter.unusedSimpArgs false
def Pre (s:ByteArray) (h:Nat):Prop:=Mach.hts s.data.toList 0=some h
theorem Pre.add {s:ByteArray} {h:Nat} (H:Pre s h) (c:UInt8) (m:Nat) (e:Mach.hts [c] h=some m):Pre (s ++ ⟨#[c]⟩) m:=by
  unfold Pre at *
  have:(s ++ (⟨#[c]⟩:ByteArray)).data.toList=s.data.toList ++ [c]:=by simp
  rw [this,Mach.hts_app _ _ _ _ H,e]
theorem size_add (s:ByteArray) (c:UInt8):(s ++ (⟨#[c]⟩:ByteArray)).size=s.size + 1:=by
  rw [ByteArray.size_append];rfl
theorem wrap_small {x:Int} (h:-1000000 ≤ x∧x ≤ 1000000000000000):wrap64 x=x:=by unfold wrap64;omega
theorem code_l1:∀ (h:Nat) (s:ByteArray),1 ≤ h → Pre s h → s.size + h ≤ 1000 → ∃ k r,bellpulllaw05_code.l1 k s (h:Int)=some r∧Pre r 1∧r.size + 1=s.size + h
  | 0,s,h1,_,_=>by omega
  | 1,s,h1,H,hs=>⟨1,s,by rw [bellpulllaw05_code.l1,if_neg (by simp)],H,rfl⟩
  | h + 2,s,h1,H,hs=>by
    obtain ⟨k,r,e,h2,h3⟩:=code_l1 (h + 1) (s ++ ⟨#[46]⟩) (by omega) (H.add 46 (h + 1) (by simp [Mach.hts])) (by rw [size_add];omega)
    rw [size_add] at h3
    refine ⟨k + 1,r,?_,h2,by omega⟩
    rw [bellpulllaw05_code.l1,if_pos (by omega),if_pos (by omega),wrap_small (by omega),← e]
    congr 1
    omega
theorem code_l0 (l:List Int) (most:Nat) (hm:1 ≤ most∧most ≤ 100) (hl:∀ v,v ∈ l → 0 ≤ v∧v < 256) (hlen:l.length ≤ 140737488351232):∀ (n i:Nat) (s:ByteArray) (h:Nat),l.length - i=n → i ≤ l.length → Pre s h → s.size + h ≤ most →
    ∃ k r,bellpulllaw05_code.l0 k l (most:Int) s (h:Int) (i:Int)=some r∧Pre r 1∧r.size ≤ most:=by
  intro n
  induction n with
  | zero =>
    intro i s h e hi H hs
    have hil:i=l.length:=by omega
    subst hil
    by_cases h0:h=0
    · subst h0
      refine ⟨2,⟨#[101]⟩,?_,by unfold Pre;simp [Mach.hts],hm.1⟩
      rw [bellpulllaw05_code.l0,if_neg (by omega),bellpulllaw05_code.j1,if_neg (by simp),if_pos (by simp)]
    · obtain ⟨k,r,e,h2,h3⟩:=code_l1 h s (by omega) H (by omega)
      refine ⟨k + 2,r,?_,h2,by omega⟩
      rw [bellpulllaw05_code.l0,if_neg (by omega),bellpulllaw05_code.j1,if_neg (by simp),if_neg (by omega)]
      exact e
  | succ n ih =>
    intro i s h e hi H hs
    have hil:i < l.length:=by omega
    by_cases hroom:s.size + h < most
    · have hd:decide (wrap64 ((s.size:Int) + (h:Int)) < (most:Int))=true:=decide_eq_true (by rw [wrap_small (by omega)];omega)
      have hw:wrap64 ((i:Int) + 1)=((i + 1:Nat):Int):=by rw [wrap_small (by omega)];omega
      obtain ⟨v,hv⟩:∃ v,v=rd l (i:Int):=⟨_,rfl⟩
      have hvr:0 ≤ v∧v < 256:=by
        rw [hv]
        unfold rd
        simp only [Int.toNat_natCast]
        rw [show l.getD i 0=l[i]'hil from by simp [List.getD,hil]]
        exact hl _ (List.getElem_mem hil)
      have hmod:Int.tmod v 10=v % 10:=Int.tmod_eq_emod_of_nonneg hvr.1
      have q0:0 ≤ (i:Int):=by omega
      have q1:(i:Int) < (l.length:Int):=by omega
      have start:∀ k,bellpulllaw05_code.l0 (k + 2) l (most:Int) s (h:Int) (i:Int)=if v % 10 < 2 then bellpulllaw05_code.j2 k l most s h i (v % 10) (decide ((h:Int) > 1)) else bellpulllaw05_code.j2 k l most s h i (v % 10) false:=fun k=>by
        rw [bellpulllaw05_code.l0,if_pos q1,bellpulllaw05_code.j1,hd,if_pos rfl,if_pos q0,if_pos q1,← hv,hmod]
      have LT:Aside0 (v % 10 ≠ 2 ∨ h=0 → (¬ (v % 10 < 2∧1 < h)) → ∃ k r,bellpulllaw05_code.j2 k l most s h i (v % 10) false=some r∧Pre r 1∧r.size ≤ most):=⟨fun h2 hn=>by
        have j3f:∀ k,bellpulllaw05_code.j2 (k + 1) l most s h i (v % 10) false=bellpulllaw05_code.j3 k l most s h i false:=fun k=>by
          rw [bellpulllaw05_code.j2,if_neg (by simp)]
          by_cases h3:v % 10=2
          · rw [if_pos h3]
            have:decide ((h:Int) > 0)=false:=decide_eq_false (by omega)
            rw [this]
          · rw [if_neg h3]
        by_cases hfit:s.size + h + 2 ≤ most
        · have hq:(((Int.tdiv v 10) % 256) % 4)=(v / 10) % 4:=by
            rw [Int.tdiv_eq_ediv_of_nonneg hvr.1];omega
          obtain ⟨c,hc1,hc2⟩:∃ c:UInt8,rdOf ByteArray.empty ([(⟨#[97]⟩:ByteArray),(⟨#[98]⟩:ByteArray),(⟨#[99]⟩:ByteArray),(⟨#[101]⟩:ByteArray)]:List ByteArray) ((v / 10) % 4)=⟨#[c]⟩∧(c=97 ∨ c=98 ∨ c=99 ∨ c=101):=by
            have:(v / 10) % 4=0 ∨ (v / 10) % 4=1 ∨ (v / 10) % 4=2 ∨ (v / 10) % 4=3:=by omega
            rcases this with e|e|e|e <;> rw [e]
            · exact ⟨97,rfl,by simp⟩
            · exact ⟨98,rfl,by simp⟩
            · exact ⟨99,rfl,by simp⟩
            · exact ⟨101,rfl,by simp⟩
          obtain ⟨k,r,e1,e2,e3⟩:=ih (i + 1) (s ++ ⟨#[c]⟩) (h + 1) (by omega) (by omega) (H.add c (h + 1) (by rw [Mach.hts,if_pos hc2,Mach.hts])) (by rw [size_add];omega)
          refine ⟨k + 2,r,?_,e2,e3⟩
          rw [j3f,bellpulllaw05_code.j3,if_neg (by simp),wrap_small (x:=(s.size:Int) + (h:Int)) (by omega),wrap_small (x:=(s.size:Int) + (h:Int) + 2) (by omega),if_pos (by omega),Option.bind_some,if_pos q0,if_pos q1,← hv,hq,if_pos (by omega),
            if_pos (by simp;omega),hc1,if_pos (by show s.size + 1 ≤ 9223372036854775807;omega),wrap_small (x:=(h:Int) + 1) (by omega),hw]
          exact e1
        · obtain ⟨k,r,e1,e2,e3⟩:=ih (i + 1) s h (by omega) (by omega) H hs
          refine ⟨k + 2,r,?_,e2,e3⟩
          rw [j3f,bellpulllaw05_code.j3,if_neg (by simp),wrap_small (x:=(s.size:Int) + (h:Int)) (by omega),wrap_small (x:=(s.size:Int) + (h:Int) + 2) (by omega),if_neg (by omega),hw]
          exact e1⟩
      by_cases hb:v % 10 < 2
      · by_cases hh:1 < h
        · obtain ⟨c,hc1,hc2⟩:∃ c:UInt8,rdOf ByteArray.empty ([(⟨#[46]⟩:ByteArray),(⟨#[43]⟩:ByteArray)]:List ByteArray) (v % 10)=⟨#[c]⟩∧(c=46 ∨ c=43):=by
            have:v % 10=0 ∨ v % 10=1:=by omega
            rcases this with e|e <;> rw [e]
            · exact ⟨46,rfl,by simp⟩
            · exact ⟨43,rfl,by simp⟩
          obtain ⟨k,r,e1,e2,e3⟩:=ih (i + 1) (s ++ ⟨#[c]⟩) (h - 1) (by omega) (by omega) (H.add c (h - 1) (by have h2:2 ≤ h:=(by omega);rcases hc2 with rfl|rfl <;> simp [Mach.hts,h2])) (by rw [size_add];omega)
          refine ⟨k + 3,r,?_,e2,e3⟩
          rw [show k + 3=(k + 1) + 2 from rfl,start,if_pos hb,show decide ((h:Int) > 1)=true from decide_eq_true (by omega),bellpulllaw05_code.j2,if_pos rfl,Option.bind_some,if_pos (by omega),if_pos (by simp;omega),hc1,if_pos (by show s.size + 1 ≤ 9223372036854775807;omega),wrap_small (x:=(h:Int) - 1) (by omega),hw,← e1]
          congr 1
          omega
        · obtain ⟨k,r,e1,e2,e3⟩:=LT.out (.inl (by omega)) (fun hx=>hh hx.2)
          refine ⟨k + 2,r,?_,e2,e3⟩
          rw [start,if_pos hb,show decide ((h:Int) > 1)=false from decide_eq_false (by omega)]
          exact e1
      · by_cases h2:v % 10=2∧0 < h
        · obtain ⟨k,r,e1,e2,e3⟩:=ih (i + 1) (s ++ ⟨#[42]⟩) h (by omega) (by omega) (H.add 42 h (by have h3:1 ≤ h:=(by omega);simp [Mach.hts];omega)) (by rw [size_add];omega)
          refine ⟨k + 4,r,?_,e2,e3⟩
          rw [show k + 4=(k + 2) + 2 from rfl,start,if_neg hb,bellpulllaw05_code.j2,if_neg (by simp),if_pos h2.1,show decide ((h:Int) > 0)=true from decide_eq_true (by omega),bellpulllaw05_code.j3,if_pos rfl,if_pos (by omega),hw]
          exact e1
        · obtain ⟨k,r,e1,e2,e3⟩:=LT.out (Classical.byCases (p:=v % 10=2) (fun h3=>.inr (by omega)) .inl) (fun hx=>hb hx.1)
          refine ⟨k + 2,r,?_,e2,e3⟩
          rw [start,if_neg hb]
          exact e1
    · have hd:decide (wrap64 ((s.size:Int) + (h:Int)) < (most:Int))=false:=decide_eq_false (by rw [wrap_small (by omega)];omega)
      by_cases h0:h=0
      · subst h0
        refine ⟨2,⟨#[101]⟩,?_,by unfold Pre;simp [Mach.hts],hm.1⟩
        rw [bellpulllaw05_code.l0,if_pos (by omega),hd,bellpulllaw05_code.j1,if_neg (by simp),if_pos (by simp)]
      · obtain ⟨k,r,e,h2,h3⟩:=code_l1 h s (by omega) H (by omega)
        refine ⟨k + 2,r,?_,h2,by omega⟩
        rw [bellpulllaw05_code.l0,if_pos (by omega),hd,bellpulllaw05_code.j1,if_neg (by simp),if_neg (by omega)]
        exact e
theorem code_some (l:List Int) (most:Nat) (hm:1 ≤ most∧most ≤ 100) (hl:∀ v,v ∈ l → 0 ≤ v∧v < 256) (hlen:l.length ≤ 140737488351232):∃ k r,bellpulllaw05_code.f k l (most:Int)=some r∧Pre r 1∧r.size ≤ most :=
  code_l0 l most hm hl hlen l.length 0 _ 0 (by omega) (by omega) (by unfold Pre;rfl) (by show 0 + 0 ≤ most;omega)
end Go.Proofs.Ytkonljiembcdlaa.PC
/- The document's examples. -/
set_option linter.unusedVariables false
namespace Go.Proofs.Ytkonljiembcdlaa.Pure
open Go.RowKit Go.Proofs.YtkonljiembcdlaaW.PrintWords Go.Proofs.Ytkonljiembcdlaa.PC
theorem lives_ev:Ev (fun k=>bellpulllaw05_lives.f k) true :=
  Ev.of (fun k=>bellpulllaw05_lives.mono k) (k:=60) (by kernel_rfl)
end Go.Proofs.Ytkonljiembcdlaa.Pure
/- CountParikh: for every input the law returns true. -/
set_option linter.unusedVariables false
set_option linter.unusedSimpArgs false
namespace Go.Proofs.Ytkonljiembcdlaa.Pure
open Go.RowKit Go.Proofs.MyWords Go.Proofs.YtkonljiembcdlaaW.PrintWords Go.Proofs.YtkonljiembcdlaaW.PrintLast Go.Proofs.YtkonljiembcdlaaW.PrintMore Go.Proofs.Ytkonljiembcdlaa.PC Go.Proofs.Ytkonljiembcdlaa.Sem
open Go.Proofs.Mach (Ex)
theorem mod5p {a:Int} (h:(Lit.int .u8 a).wf=true):0 ≤ Int.tmod (wrap64 a) 5∧Int.tmod (wrap64 a) 5 ≤ 8:=by
  have:=wf_u8 h
  rw [wrap_id (by omega) (by omega),Int.tmod_eq_emod_of_nonneg this.1]
  omega
theorem CountParikh:∀ (l0:List Int) (a1_0 a1_1 a1_2:Int),l0.length ≤ 140737488351232 → (∀ x ∈ l0,(Lit.int .u8 x).wf=true) → (Lit.int .u8 a1_0).wf=true → (Lit.int .u8 a1_1).wf=true → (Lit.int .u8 a1_2).wf=true → ∃ k,bellpulllaw05_CountParikh.f k l0 a1_0 a1_1 a1_2=some true:=by
  intro l0 a b c hl0 hw0 ha hb hc
  refine Ev.rounds (g:=fun k=>bellpulllaw05_CountParikh.f k l0 a b c) ?_
  obtain ⟨K,s,h1,pre,sz⟩:=code_some l0 12 (by omega) (fun v hv=>by have:=wf_u8 (hw0 v hv);omega) hl0
  have hcode:Ev (fun k=>bellpulllaw05_code.f k l0 12) s:=Ev.of (fun k=>bellpulllaw05_code.mono _ _ k) h1
  have ma:=mod5p ha
  have mb:=mod5p hb
  have mc:=mod5p hc
  obtain ⟨v,hv⟩:∃ v:List Int,v=[Int.tmod (wrap64 a) 5,Int.tmod (wrap64 b) 5,Int.tmod (wrap64 c) 5]:=⟨_,rfl⟩
  have hv8:∀ x,x ∈ v → 0 ≤ x∧x ≤ 8:=fun x hx=>by
    rw [hv] at hx
    simp only [List.mem_cons,List.not_mem_nil,or_false] at hx
    rcases hx with rfl|rfl|rfl
    · exact ma
    · exact mb
    · exact mc
  have hvl:v.length=3:=by rw [hv];rfl
  -- the expression
  obtain ⟨e,he⟩:∃ e,Mach.runX s.data.toList []=some (some e):=by
    obtain ⟨X,_,hX⟩:=Mach.run_one (G:=fun _:Ex=>True) (fun i=>some (Ex.l i)) (fun a b=>some (Ex.j a b)) (fun a b=>some (Ex.e a b)) (fun a=>some (Ex.s a)) ⟨fun i _=>⟨_,rfl,trivial⟩,fun a b _ _=>⟨_,rfl,trivial⟩,fun a b _ _=>⟨_,rfl,trivial⟩,fun a _=>⟨_,rfl,trivial⟩⟩ pre
    have:=hX [] []
    rw [List.append_nil] at this
    exact ⟨X,this⟩
  have hm:=mok_v3 hvl hv8
  obtain ⟨o,o1,o2⟩:=runF_den (v3of v) hm s.data.toList
  rw [he] at o1
  obtain rfl:=Option.some.inj o1
  obtain ⟨L,hL,rF⟩:=o2
  obtain ⟨o,p1,p2⟩:=image_ev s (by omega)
  rw [he] at p1
  obtain rfl:=Option.some.inj p1
  obtain ⟨x,rI,hI⟩:=p2
  have hacc:Ev (fun k=>count_Accepts.f k s v) (decide (v3of v ∈ L),0):=by
    have ho:¬ (v.any fun x=>decide (x < 0) || decide (8 < x))=true:=by
      rw [outside_iff];exact fun h=>h hv8
    unfold count_Accepts.f
    exact Ev.neg (by omega) (Ev.neg ho (Ev.pos hvl (Ev.bind (a:=some L) hL (Ev.now _))))
  have hin:(decide (v3of v ∈ L)=true) ↔ den e (v3of v):=by
    rw [decide_eq_true_iff,rF.2]
    exact ⟨fun h=>h.1,fun h=>⟨h,box_iff.2 ⟨Int.le_refl _,Int.le_refl _,Int.le_refl _⟩⟩⟩
  unfold bellpulllaw05_CountParikh.f
  refine Ev.bind hcode (Ev.bindc rfl ?_)
  rw [← hv]
  refine Ev.bind hI (Ev.bind hacc (Ev.pos rfl ?_))
  cases hf:x.2
  · rw [if_neg (by simp)]
    refine Ev.pos rfl (Ev.bind lives_ev (Ev.succ ?_))
    simp only [bellpulllaw05_CountParikh.j0]
    have ok:=rI.2.1 hf
    obtain ⟨hv1,hv2⟩:=heavy_ev (Nat.le_refl 3) ok
    refine Ev.neg (by simp) (Ev.pos trivial (Ev.bind hv2 ?_))
    cases hv1
    · obtain ⟨b,hb,ib⟩:=Has_ok (d:=3) (by omega) (Nat.le_refl 3) ok (v:=v) ⟨hvl,fun z hz=>⟨(hv8 z hz).1,by have:=(hv8 z hz).2;omega⟩⟩
      refine Ev.neg (by simp) (Ev.bind hb (Ev.pos rfl ?_))
      have hsem:b=decide (v3of v ∈ L):=by
        rw [Bool.eq_iff_iff,ib,hin,rI.2.2 hf]
        exact ⟨fun h=>h.2,fun h=>⟨hvl,h⟩⟩
      rw [← hsem]
      cases b
      · exact Ev.neg (by simp) (Ev.now _)
      · exact Ev.pos rfl (Ev.now _)
    · exact Ev.pos rfl (Ev.now _)
  · rw [if_pos rfl]
    refine Ev.neg (by decide) (Ev.pos rfl (Ev.bind lives_ev (Ev.succ ?_)))
    simp only [bellpulllaw05_CountParikh.j0]
    exact Ev.neg (by simp) (Ev.neg (by simp) (Ev.now _))
end Go.Proofs.Ytkonljiembcdlaa.Pure
/- An array of three bytes, and a slice of bytes, as arguments: opened, and shut. -/
set_option linter.unusedVariables false
set_option linter.constructorNameAsVariable false
namespace Go.Proofs.Ytkonljiembcdlaa.RowT
open Go.ChangeShapes Go.WideShapes Go.ChangeAt Go.RowKit Go.Joins
section
variable {H:Type} {enc:TypeId × Value → H} {w:World} {base:Nat} {spare:Nat → Bool} {held:Bool}
theorem open_three {r:Reach} {b0:Nat} {v:Value} {d:DataW H} {p:List MemPlace} (hv:Value.okWide Try.prog w r b0 51 v) (h:DataW.Trod enc Try.prog w base spare held 51 v d p) :
    ∃ a b c:Int,v=.agg #[.int .u8 a,.int .u8 b,.int .u8 c]∧d=.agg [.lit (.int .u8 a),.lit (.int .u8 b),.lit (.int .u8 c)]∧p=[] ∧
      (Lit.int .u8 a).wf=true∧(Lit.int .u8 b).wf=true∧(Lit.int .u8 c).wf=true:=by
  simp only [Value.okWide,Try.underlying51] at hv
  obtain ⟨cs,rfl,hs,_⟩:=hv
  have hC:Try.prog.cellsOf 51=3:=by kernel_rfl
  have hE:Try.prog.cellsOf 5=1:=by kernel_rfl
  obtain ⟨v0,v1,v2,rfl⟩:=array3 (hs.trans hC)
  obtain ⟨fuel,hf⟩:=h
  cases fuel with
  | zero=>simp [DataW.trod] at hf
  | succ m =>
    rw [DataW.trod_step] at hf
    unfold DataW.trodStep at hf
    simp only [Try.underlying51,Value.cells] at hf
    rw [if_pos (by rw [hC];rfl)] at hf
    simp only [Option.map_eq_some_iff] at hf
    obtain ⟨ys,hy,e1⟩:=hf
    rw [hE] at hy
    simp only [show List.range 3=[0,1,2] from rfl,List.mapM_cons,List.mapM_nil,bind,pure,Option.bind_eq_some_iff,Option.some.injEq] at hy
    obtain ⟨y0,h0,z0,⟨y1,h1,z1,⟨y2,h2,z2,rfl,rfl⟩,rfl⟩,rfl⟩:=hy
    obtain ⟨a,ea,rfl,wa⟩:=DataW.trod_int Try.underlying5 h0
    obtain ⟨b,eb,rfl,wb⟩:=DataW.trod_int Try.underlying5 h1
    obtain ⟨c,ec,rfl,wc⟩:=DataW.trod_int Try.underlying5 h2
    simp at ea eb ec e1
    subst ea eb ec
    exact ⟨a,b,c,rfl,e1.1.symm,e1.2.symm ▸ rfl,wa,wb,wc⟩
theorem shut_three {a b c:Int} (h:(Lit.int .u8 a).wf=true∧(Lit.int .u8 b).wf=true∧(Lit.int .u8 c).wf=true) :
    DataW.Trod enc Try.prog w base spare held 51 (.agg #[.int .u8 a,.int .u8 b,.int .u8 c]) (.agg [.lit (.int .u8 a),.lit (.int .u8 b),.lit (.int .u8 c)]) []:=by
  have hC:Try.prog.cellsOf 51=3:=by kernel_rfl
  have hE:Try.prog.cellsOf 5=1:=by kernel_rfl
  refine ⟨2,?_⟩
  rw [DataW.trod_step]
  unfold DataW.trodStep
  simp only [Try.underlying51,Value.cells]
  rw [if_pos (by rw [hC];rfl),hE]
  have t:∀ n,(Lit.int .u8 n).wf=true → DataW.trod enc Try.prog w base spare held 1 5 [.int .u8 n]=some (.lit (.int .u8 n),[]):=fun n hn=>trod_int_mk 0 Try.underlying5 hn
  simp only [show List.range 3=[0,1,2] from rfl,List.mapM_cons,List.mapM_nil,bind,pure]
  simp [t _ h.1,t _ h.2.1,t _ h.2.2]
theorem rowOf {a:Option Addr} {len cap:Nat} {d:DataW H} {p:List MemPlace} (h:DataW.Trod enc Try.prog w base (fun _=>true) held 50 (.slice a len cap) d p) :
    ∃ zs:List Int,(a=none∧len=0∧cap=0∧zs=[]) ∨ ∃ x,a=some x∧len ≤ cap∧cap ≤ maxLen∧zs.length=cap∧(∀ i,i < zs.length → w.cell? (x.add i)=some (.int .u8 (zs.getD i 0)))∧∀ n ∈ zs,(Lit.int .u8 n).wf=true:=by
  obtain ⟨fuel,hf⟩:=h
  rcases open_ints Try.underlying50 Try.underlying5 (by kernel_rfl) hf with ⟨hcs,_⟩|⟨x,l,c,zs,hcs,_,hl,hm,hz,_,hcell,hwz⟩
  · simp [Value.cells] at hcs
    obtain ⟨rfl,rfl,rfl⟩:=hcs
    exact ⟨[],.inl ⟨rfl,rfl,rfl,rfl⟩⟩
  · simp [Value.cells] at hcs
    obtain ⟨rfl,rfl,rfl⟩:=hcs
    exact ⟨zs,.inr ⟨_,rfl,hl,hm,by simpa using hz,hcell,hwz⟩⟩
end
end Go.Proofs.Ytkonljiembcdlaa.RowT
