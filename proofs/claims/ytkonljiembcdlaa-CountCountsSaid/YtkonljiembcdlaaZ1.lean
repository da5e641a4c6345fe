import Derived.Test.YtkonljiembcdlaaPCx0
import Derived.Test.YtkonljiembcdlaaPCx4
import Derived.Test.YtkonljiembcdlaaPCx5
import Derived.Test.YtkonljiembcdlaaWMore
import Derived.Test.YtkonljiembcdlaaPCx1
import Derived.Test.YtkonljiembcdlaaPCx3
import Derived.Test.YtkonljiembcdlaaProg
import Derived.WalkKit
import Derived.ProofKit
import Derived.OpenShut
import Derived.Lib.SmallJoins
import Derived.SizedLaws
import Derived.Deep.Slices
import Derived.Test.YtkonljiembcdlaaZ0
namespace Go.Proofs.Ytkonljiembcdlaa.PC
open Go.Proofs.MyWords Go.RowKit Go.Proofs.YtkonljiembcdlaaW.PrintWords Go.Proofs.YtkonljiembcdlaaW.PrintLast Go.Proofs.YtkonljiembcdlaaW.PrintMore
attribute [local go_sem] max2_int min2_int max_two min_two max_three min_three max_four min_four   -- for this text's walks alone
set_option linter.unusedVariables false
set_option linter.unusedSimpArgs false
attribute [local go_sem] eqGuard_slices eqlnil23 neqnil23 eqlnil58 neqnil58
mutual
def bellpulllaw05_CountCounts.j0:Nat → List (S60) → Int → Bool → Int → Int → List (S60) → List (S60) → List Int → Option (Bool)
  | 0,_,_,_,_,_,_,_,_=>none
  | k + 1,x3,x4,x30,x1005000,x1005001,x1005002,x1005003,x1005004=>if x30=true then ((bellpulllaw05_lives.f k).bind fun t1013=>(some t1013)) else ((count_Count.f k x1005000 x3 x1005001).bind fun bt1014=>((count_Least.f k x1005000 x3).bind fun bt1016=>(if x4=3 then (bellpulllaw05_CountCounts.j1 k x3 x4 bt1014.1 bt1014.2 bt1016.1 bt1016.2 x4 false x1005000 x1005001 x1005002 x1005003 x1005004) else ((bellpullref01_In.f x1005001 0 20).bind fun t1020=>(bellpulllaw05_CountCounts.j1 k x3 x4 bt1014.1 bt1014.2 bt1016.1 bt1016.2 x4 (!t1020) x1005000 x1005001 x1005002 x1005003 x1005004)))))
def bellpulllaw05_CountCounts.j1:Nat → List (S60) → Int → Int → Int → List Int → Int → Int → Bool → Int → Int → List (S60) → List (S60) → List Int → Option (Bool)
  | 0,_,_,_,_,_,_,_,_,_,_,_,_,_=>none
  | k + 1,x3,x4,x5,x6,x7,x8,x9,x56,x1005000,x1005001,x1005002,x1005003,x1005004=>if x56=true then (bellpulllaw05_CountCounts.j2 k x3 x4 x5 x6 x7 x8 1 x1005000 x1005001 x1005002 x1005003 x1005004) else (bellpulllaw05_CountCounts.j2 k x3 x4 x5 x6 x7 x8 x9 x1005000 x1005001 x1005002 x1005003 x1005004)
def bellpulllaw05_CountCounts.j2:Nat → List (S60) → Int → Int → Int → List Int → Int → Int → Int → Int → List (S60) → List (S60) → List Int → Option (Bool)
  | 0,_,_,_,_,_,_,_,_,_,_,_,_=>none
  | k + 1,x3,x4,x5,x6,x7,x8,x9,x1005000,x1005001,x1005002,x1005003,x1005004=>if x9=0 then ((bellpullref05_All.f k x1005000 x1005001).bind fun t1021=>(bellpulllaw05_CountCounts.l0 k x3 x4 x5 x6 x7 x8 0 t1021 0)) else (if x5=0 then (if x6=x9 then (bellpulllaw05_CountCounts.j4 k x3 x4 x7 x8) else (none)) else (none))
def bellpulllaw05_CountCounts.j4:Nat → List (S60) → Int → List Int → Int → Option (Bool)
  | 0,_,_,_,_=>none
  | k + 1,x3,x4,x7,x8=>if x4=0 then (bellpulllaw05_CountCounts.j5 k x3 x4 x7 x8 ((x3.length:Int) == 0)) else (bellpulllaw05_CountCounts.j5 k x3 x4 x7 x8 false)
def bellpulllaw05_CountCounts.j5:Nat → List (S60) → Int → List Int → Int → Bool → Option (Bool)
  | 0,_,_,_,_,_=>none
  | k + 1,x3,x4,x7,x8,x98=>if x98=true then (bellpulllaw05_CountCounts.j6 k x3 5 x7 x8) else (bellpulllaw05_CountCounts.j6 k x3 x4 x7 x8)
def bellpulllaw05_CountCounts.j6:Nat → List (S60) → Int → List Int → Int → Option (Bool)
  | 0,_,_,_,_=>none
  | k + 1,x3,x4,x7,x8=>if x4=0 then (if 0 < (x3.length:Int) then (bellpulllaw05_CountCounts.l1 k x3 x7 x8 ((rd_T60 x3 0).f0) 1) else (none)) else (if (x7.length:Int)=0 then (if x8=x4 then ((bellpulllaw05_lives.f k).bind fun t1026=>(some t1026)) else (none)) else (none))
def bellpulllaw05_CountCounts.l1:Nat → List (S60) → List Int → Int → List Int → Int → Option (Bool)
  | 0,_,_,_,_,_=>none
  | k + 1,x3,x7,x8,x13,x14=>if x14 < (x3.length:Int) then (if 0 ≤ x14 then ((bellpullref05_Total.f k ((rd_T60 x3 x14).f0)).bind fun t1031=>((bellpullref05_Total.f k x13).bind fun t1032=>(if t1031 < t1032 then (bellpulllaw05_CountCounts.l1 k x3 x7 x8 ((rd_T60 x3 x14).f0) (wrap64 (x14 + 1))) else (if t1031=t1032 then ((bellpullref01_Before.f k ((rd_T60 x3 x14).f0) x13).bind fun t1035=>(if t1035=true then (bellpulllaw05_CountCounts.l1 k x3 x7 x8 ((rd_T60 x3 x14).f0) (wrap64 (x14 + 1))) else (bellpulllaw05_CountCounts.l1 k x3 x7 x8 x13 (wrap64 (x14 + 1))))) else (bellpulllaw05_CountCounts.l1 k x3 x7 x8 x13 (wrap64 (x14 + 1))))))) else (none)) else ((bellpullref01_Same.f k x7 x13).bind fun t1028=>(if t1028=true then (if x8=0 then ((bellpulllaw05_lives.f k).bind fun t1029=>(some t1029)) else (none)) else (none)))
def bellpulllaw05_CountCounts.l0:Nat → List (S60) → Int → Int → Int → List Int → Int → Int → List (List Int) → Int → Option (Bool)
  | 0,_,_,_,_,_,_,_,_,_=>none
  | k + 1,x3,x4,x5,x6,x7,x8,x10,x11,x12=>if x12 < (x11.length:Int) then (if 0 ≤ x12 then ((bellpullref05_Has.f k x3 (rd_L1 x11 x12)).bind fun t1025=>(if t1025=true then (bellpulllaw05_CountCounts.l0 k x3 x4 x5 x6 x7 x8 (wrap64 (x10 + 1)) x11 (wrap64 (x12 + 1))) else (bellpulllaw05_CountCounts.l0 k x3 x4 x5 x6 x7 x8 x10 x11 (wrap64 (x12 + 1))))) else (none)) else (if x5=x10 then (if x6=0 then (bellpulllaw05_CountCounts.j4 k x3 x4 x7 x8) else (none)) else (none))
end
def bellpulllaw05_CountCounts.f (k:Nat) (a0_0:Int) (a0_1:Int) (l0_2:List (S60)) (l0_3:List (S60)) (l0_4:List Int):Option (Bool):=(bellpulllaw05_few.f k l0_2).bind fun t1005=>((bellpullref05_Check.f k a0_0 (([t1005]:List (List (S60))))).bind fun t1011=>(if t1011=0 then ((bellpulllaw05_heavy.f k t1005).bind fun t1012=>(bellpulllaw05_CountCounts.j0 k t1005 t1011 t1012 a0_0 a0_1 l0_2 l0_3 l0_4)) else (bellpulllaw05_CountCounts.j0 k t1005 t1011 false a0_0 a0_1 l0_2 l0_3 l0_4)))
set_option maxHeartbeats 8000000 in
set_option maxRecDepth 100000 in
theorem bellpulllaw05_CountCounts.calls (k:Nat) (M:Int) (O:Int) (b1:Option Addr) (b2:Nat) (Q:List (S60)) (b3:Option Addr) (b4:Nat) (T:List (S60)) (b5:Option Addr) (b6:Nat) (U:List Int) (r:Bool) (w:World) (D2:Kd.C k60 w b1 Q.length Q) (D3:Q.length ≤ b2) (D4:Kd.C k60 w b3 T.length T) (D5:T.length ≤ b4) (D6:Kd.C (Kd.int .i64) w b5 U.length U) (D7:U.length ≤ b6) (h:bellpulllaw05_CountCounts.f k M O Q T U=some r) :
    Calls Try.prog 15 #[.agg #[.int .i64 M,.int .i64 O,.slice b1 Q.length b2,.slice b3 T.length b4,.slice b5 U.length b6]] w fun e w'=>e=.returned (.bool r)∧Below w.heap.size w w':=by
 have U9:=Try.underlying25;have H9:=mk0 D2;have I0:=mk0 D3;clear D2 D3;have U3:=mk0 D4;have U4:=mk0 D5;clear D4 D5;have U5:=mk0 D6;have U6:=mk0 D7;clear D6 D7;have L:=mk0 (Below.refl w.heap.size w);have H:((bellpulllaw05_few.f k Q).bind fun D=>((bellpullref05_Check.f k M (([D]:List (List (S60))))).bind fun J=>(if J=0 then ((bellpulllaw05_heavy.f k D).bind fun s4=>(bellpulllaw05_CountCounts.j0 k D J s4 M O Q T U)) else (bellpulllaw05_CountCounts.j0 k D J false M O Q T U))))=some r:=h;clear h;replace H:=Option.bind_eq_some_iff.mp H;obtain ⟨D,D8,H⟩:=H;(try dsimp only at H);have A2:=mk0 D8;clear D8;obtain ⟨A6,r9⟩:∃ y_:List (List (S60)),y_=(([D]:List (List (S60)))):=⟨_,rfl⟩;(replace H:((bellpullref05_Check.f k M A6).bind fun J=>(if J=0 then ((bellpulllaw05_heavy.f k D).bind fun s4=>(bellpulllaw05_CountCounts.j0 k D J s4 M O Q T U)) else (bellpulllaw05_CountCounts.j0 k D J false M O Q T U)))=some r:=by first|(rw [r9];with_reducible exact H)|(have F6:=(Option.bind_some _ _).symm.trans H;rw [r9];with_reducible exact F6)|(have F6:=(Option.bind_some _ _).symm.trans H;with_reducible exact F6)|with_reducible exact H|(rw [r9];exact H)|exact H);have B1:=mk0 r9;clear r9;replace H:=Option.bind_eq_some_iff.mp H;obtain ⟨J,I9,H⟩:=H;(try dsimp only at H);have A3:=mk0 I9;clear I9;have F7:=mk0 H;clear H;go_enter Try.func15,Try.ntmps15;go_upto_region 3 with (first|((with_reducible refine gate_dst (N:=1) rfl ?_);(try (refine gate_guard (by rfl) ?_;dsimp only));refine box_event ?hg (N:=1) ?hd (cs:=#[.int .i64 M,.int .i64 O,.slice b1 Q.length b2,.slice b3 T.length b4,.slice b5 U.length b6]) (t:=25) ?hr ?_;(case hd=>rfl);(case hg=>rfl);(case hr=>first|(go_simp;done)|(go_simp;rfl));intro G hg w5 F8 hb;have B:=mk0 (F8);have R2:=mk0 ((by rw [hg];exact (below_size (by repeat (first|(with_reducible first|exact L.1|apply below_alloc|apply pw_below_drewN|apply below_drew1)|exact L.1))):w.heap.size ≤ G));have I:=mk0 ((by rw [hg];exact (below_size (by repeat (first|(with_reducible first|exact L.1|apply below_alloc|apply pw_below_drewN|apply below_drew1)|exact L.1))):w.heap.size ≤ G));replace L:=mk0 (below_step (by repeat (first|(with_reducible first|exact L.1|apply below_alloc|apply pw_below_drewN|apply below_drew1)|exact L.1)) hb);clear hb F8 hg;have l7:=q0_ B;have l8:=q1_ B;have l9:=q2_ B;have m0:=q3_ B;have m1:=((blk_cell B.1 4).trans rfl);have m2:=blk_frozen B.1 0;have m3:=blk_frozen B.1 1;have m4:=blk_frozen B.1 2;have m5:=blk_frozen B.1 3;have m6:=blk_frozen B.1 4)|((with_reducible refine gate_callee (f:=17) rfl ?_);refine goesL_ (some 19) rfl rfl Try.func17 (by kernel_rfl) rfl #[.slice b1 Q.length b2] rfl (by (try simp only [m0_,m1_,m2_]);first|done|rfl|(simp only [l0_,l1_];rfl)) ?_;(with_reducible refine (bellpulllaw05_few.calls k _ _ Q D _ ?side1 ?side2 A2.1).mono ?_);(case side1=>repeat (first|exact (Kd.C_below H9.1 L.1)|(with_reducible refine Kd.C_alloc ?_ _)|(with_reducible refine Kd.C_drewN ?_ _)|(with_reducible refine Kd.C_drew ?_)));(case side2=>exact I0.1);rintro e w7 ⟨U7,rfl,r8,hb⟩;refine ⟨_,rfl,?_⟩;have e3:=mk0 (Kd.N_lower (Kd.N_mono (ok':=fun k_=>k_ ≠ G) (Kd.R_N (Kd.R_bound r8)) (fun k_ hk_=>(Kd.freshB (g:=G) (o:=.cells #[.int .i64 M,.int .i64 O,.slice b1 Q.length b2,.slice b3 T.length b4,.slice b5 U.length b6] 25 (0,0)) (by (with_reducible repeat (first|refine blk_drewN ?_ _|refine blk_drew ?_|refine blk_alloc ?_ _));exact B.1) k_ hk_.2.1))) (below_size (by repeat (first|(with_reducible first|exact L.1|apply below_alloc|apply pw_below_drewN|apply below_drew1|refine below_set ?_ I.1)|exact L.1))));replace B:=mk0 (blk_below (g:=G) (o:=.cells #[.int .i64 M,.int .i64 O,.slice b1 Q.length b2,.slice b3 T.length b4,.slice b5 U.length b6] 25 (0,0)) (by (with_reducible repeat (first|refine blk_drewN ?_ _|refine blk_drew ?_|refine blk_alloc ?_ _));exact B.1) hb);replace L:=mk0 (below_step (by repeat (first|(with_reducible first|exact L.1|apply below_alloc|apply pw_below_drewN|apply below_drew1|refine below_set ?_ I.1)|exact L.1)) hb);(try clear hb);(try clear hk);(try clear r8);have m7:=q0_ B;have m8:=q1_ B;have m9:=q2_ B;have n0:=q3_ B;have n1:=((blk_cell B.1 4).trans rfl);have n2:=blk_frozen B.1 0;have n3:=blk_frozen B.1 1;have n4:=blk_frozen B.1 2;have n5:=blk_frozen B.1 3;have n6:=blk_frozen B.1 4;obtain ⟨o1,n7,R3⟩:=Kd.N_slice e3.1;subst R3)|((with_reducible refine gate_dst (N:=23) rfl ?_);(try (refine gate_guard (by rfl) ?_;dsimp only));refine Kd.N_lit (Kd.slice 60 k60) _ 22 ?hg (N':=23) ?hd (xs:=([D]:List (List (S60)))) (inner:=[.slice o1 D.length n7]) (ok:=(fun k_=>k_ ≠ G)) (okp:=(fun k_=>k_ ≠ G)) ?hr ?hp (fun _ hk=>hk) ((show ∀ k_,w7.heap.size ≤ k_ → (fun k_=>k_ ≠ G) k_ from fun k_ hk=>Kd.freshB (g:=G) (o:=.cells #[.int .i64 M,.int .i64 O,.slice b1 Q.length b2,.slice b3 T.length b4,.slice b5 U.length b6] 25 (0,0)) (by (with_reducible repeat (first|refine blk_drewN ?_ _|refine blk_drew ?_|refine blk_alloc ?_ _));exact B.1) k_ hk) _ (Nat.le_refl _)) (Below.refl _ _) (Nat.le_refl _) (by simp) ?_;(case hd=>rfl);(case hg=>rfl);(case hr=>first|(go_simp;done)|(go_simp;rfl));(case hp=>exact (Reps.one (show Kd.FK (Kd.slice 60 k60) _ _ D [.slice o1 D.length n7] from (Kd.FK_slice_mk (Kd.N_reads' (Kd.N_mono (ok':=(fun k_=>k_ ≠ G)) (e3.1) (fun k_ hk=>hk))).2.1 (Kd.N_F (Kd.N_mono (ok':=(fun k_=>k_ ≠ G)) (e3.1) (fun k_ hk=>hk))))) (Reps.none _ _)));intro U8 X3 s0 hb hg_ I1;clear hg_ I1;(first|rw [← B1.1] at s0|(simp only [Int.reduceToNat] at s0;rw [← B1.1] at s0));have s1:=mk0 (Kd.N_lower s0 (below_size (by repeat (first|(with_reducible first|exact L.1|apply below_alloc|apply pw_below_drewN|apply below_drew1|refine below_set ?_ I.1)|exact L.1))));replace e3:=mk0 (Kd.N_elder' (by (with_reducible repeat (first|apply Kd.N_alloc|apply Kd.N_drewN|apply Kd.N_drew));exact e3.1) (by first|exact Kd.N_base s0|exact Kd.S_base s0|exact Kd.R_base s0) hb);replace B:=mk0 (blk_below (g:=G) (o:=.cells #[.int .i64 M,.int .i64 O,.slice b1 Q.length b2,.slice b3 T.length b4,.slice b5 U.length b6] 25 (0,0)) (by (with_reducible repeat (first|refine blk_drewN ?_ _|refine blk_drew ?_|refine blk_alloc ?_ _));exact B.1) hb);replace L:=mk0 (below_step (by repeat (first|(with_reducible first|exact L.1|apply below_alloc|apply pw_below_drewN|apply below_drew1|refine below_set ?_ I.1)|exact L.1)) hb);clear hb s0;obtain ⟨J2,J3,J4⟩:=Kd.N_slice s1.1;subst J4)|((with_reducible refine gate_callee (f:=19) rfl ?_);refine goesL_ (some 24) rfl rfl Try.func19 (by kernel_rfl) rfl #[.int .i64 M,.slice J2 A6.length J3] rfl (by (try simp only [m0_,m1_,m2_]);first|done|rfl|(simp only [l0_,l1_];rfl)) ?_;(with_reducible refine (bellpullref05_Check.calls k M _ _ A6 J _ ?side1 ?side2 A3.1).mono ?_);(case side1=>repeat (first|exact (Kd.N_reads' s1.1).2.2|(with_reducible refine Kd.C_alloc ?_ _)|(with_reducible refine Kd.C_drewN ?_ _)|(with_reducible refine Kd.C_drew ?_)));(case side2=>exact (Kd.N_reads' s1.1).2.1);rintro e X4 ⟨rfl,hb⟩;refine ⟨_,rfl,?_⟩;replace e3:=mk0 (Kd.N_below (by (with_reducible repeat (first|apply Kd.N_alloc|apply Kd.N_drewN|apply Kd.N_drew));exact e3.1) hb);replace s1:=mk0 (Kd.N_below (by (with_reducible repeat (first|apply Kd.N_alloc|apply Kd.N_drewN|apply Kd.N_drew));exact s1.1) hb);replace B:=mk0 (blk_below (g:=G) (o:=.cells #[.int .i64 M,.int .i64 O,.slice b1 Q.length b2,.slice b3 T.length b4,.slice b5 U.length b6] 25 (0,0)) (by (with_reducible repeat (first|refine blk_drewN ?_ _|refine blk_drew ?_|refine blk_alloc ?_ _));exact B.1) hb);replace L:=mk0 (below_step (by repeat (first|(with_reducible first|exact L.1|apply below_alloc|apply pw_below_drewN|apply below_drew1|refine below_set ?_ I.1)|exact L.1)) hb);(try clear hb);(try clear hk)));(try simp only [Act.put,s0_,s1_,s2_]);go_cut [30] (fun R4 wc=>∃ (kq:Nat) (x9:Bool),R4=.bool x9∧Aside0 (bellpulllaw05_CountCounts.j0 kq D J x9 M O Q T U=some r)∧Aside0 (kq ≤ k)∧Aside0 (Kd.N k60 60 wc w.heap.size (fun k_=>k_ ≠ G) (.slice o1 D.length n7) D)∧Aside0 (wc.heap[G]?=some (.cells #[.int .i64 M,.int .i64 O,(.slice b1 Q.length b2),(.slice b3 T.length b4),(.slice b5 U.length b6)] 25 (0,0)))∧Aside0 (Below w.heap.size w wc));case first =>have H:=F7.1;clear F7;by_cases c14:J=0;(· rw [if_pos c14] at H;have c14b0:(J == 0)=true:=beq_iff_eq.mpr c14;have c14b1:(J != 0)=false:=bne_eq_false_iff_eq.mpr c14;clear c14;(first|rw [c14b0]|(simp only [i64_w,i32_w];rw [c14b0])|skip);replace H:=Option.bind_eq_some_iff.mp H;obtain ⟨s4,F9,H⟩:=H;(try dsimp only at H);have R5:=mk0 F9;clear F9;have H':=mk0 H;clear H;go_wp2_with (first|(go_at_call 21;(with_reducible refine (bellpulllaw05_heavy.calls k _ _ D s4 _ ?side1 ?side2 R5.1).mono ?_);(case side1=>repeat (first|exact (Kd.N_reads' e3.1).2.2|(with_reducible refine Kd.C_alloc ?_ _)|(with_reducible refine Kd.C_drewN ?_ _)|(with_reducible refine Kd.C_drew ?_)));(case side2=>exact (Kd.N_reads' e3.1).2.1);rintro e w' ⟨rfl,⟨nd,rfl⟩⟩));go_meet;case rel=>exact ⟨_,(s4),(by first|rfl|(simp;done)|(simp [*];done)),H',⟨by first|omega|exact Nat.le_refl _⟩,⟨by (with_reducible repeat (first|apply Kd.N_alloc|apply Kd.N_drewN|apply Kd.N_drew));exact Kd.N_mono e3.1 (fun _ hk=>hk.1)⟩,⟨by (with_reducible repeat (first|refine blk_drewN ?_ _|refine blk_drew ?_|refine blk_alloc ?_ _));exact B.1⟩,⟨by repeat (first|(with_reducible first|exact L.1|apply below_alloc|apply pw_below_drewN|apply below_drew1|refine below_set ?_ I.1)|exact L.1)⟩⟩);· rw [if_neg c14] at H;have c14b0:(J == 0)=false:=beq_eq_false_iff_ne.mpr c14;have c14b1:(J != 0)=true:=bne_iff_ne.mpr c14;(first|rw [c14b0]|(simp only [i64_w,i32_w];rw [c14b0])|skip);have H':=mk0 H;clear H;go_wp2;go_meet;case rel=>exact ⟨_,(false),(by first|rfl|(simp;done)|(simp [*];done)),H',⟨by first|omega|exact Nat.le_refl _⟩,⟨by (with_reducible repeat (first|apply Kd.N_alloc|apply Kd.N_drewN|apply Kd.N_drew));exact Kd.N_mono e3.1 (fun _ hk=>hk.1)⟩,⟨by (with_reducible repeat (first|refine blk_drewN ?_ _|refine blk_drew ?_|refine blk_alloc ?_ _));exact B.1⟩,⟨by repeat (first|(with_reducible first|exact L.1|apply below_alloc|apply pw_below_drewN|apply below_drew1|refine below_set ?_ I.1)|exact L.1)⟩⟩
 case rest =>
  (clear F7;try clear c1);(try clear p2);(try clear c14);(try clear c14b0);(try clear c14b1);(try clear c15);(try clear l7);(try clear l8);(try clear l9);(try clear m0);(try clear m1);(try clear m7);(try clear m8);(try clear m9);(try clear n0);(try clear n1);(try clear m2);(try clear m3);(try clear m4);(try clear m5);(try clear m6);(try clear n2);(try clear n3);(try clear n4);(try clear n5);try clear n6
  obtain ⟨kq,x9,rfl,HA,e7,F,B,L⟩:=hcut;cases kq with
  | zero=>exact absurd HA.1 (by simp [bellpulllaw05_CountCounts.j0])
  | succ kj3 =>
   have H:=HA.1;clear HA;simp only [bellpulllaw05_CountCounts.j0] at H;by_cases s2:x9=true;· (subst s2;have H1:((bellpulllaw05_lives.f kj3).bind fun A7=>(some A7))=some r:=by rw [if_pos rfl] at H;exact H);clear H;have H:=H1;clear H1;replace H:=Option.bind_eq_some_iff.mp H;obtain ⟨A7,G0,H⟩:=H;(try dsimp only at H);have R6:=mk0 G0;clear G0;obtain rfl:=Option.some.inj H;go_wp2_with (first|((with_reducible refine gate_callee (f:=22) rfl ?_);refine goesL_ (some 31) rfl rfl Try.func22 (by kernel_rfl) rfl #[] rfl (by (try simp only [m0_,m1_,m2_]);first|done|rfl|(simp only [l0_,l1_];rfl)) ?_;(with_reducible refine (bellpulllaw05_lives.calls kj3  A7 _ R6.1).mono ?_);rintro e X5 ⟨rfl,hb⟩;refine ⟨_,rfl,?_⟩;replace F:=mk0 (Kd.N_below (by (with_reducible repeat (first|apply Kd.N_alloc|apply Kd.N_drewN|apply Kd.N_drew));exact F.1) hb);replace B:=mk0 (blk_below (g:=G) (o:=.cells #[.int .i64 M,.int .i64 O,.slice b1 Q.length b2,.slice b3 T.length b4,.slice b5 U.length b6] 25 (0,0)) (by (with_reducible repeat (first|refine blk_drewN ?_ _|refine blk_drew ?_|refine blk_alloc ?_ _));exact B.1) hb);replace L:=mk0 (below_step (by repeat (first|(with_reducible first|exact L.1|apply below_alloc|apply pw_below_drewN|apply below_drew1|refine below_set ?_ I.1)|exact L.1)) hb);(try clear hb)));go_ret;exact ⟨by first|rfl|(simp [errW_none,errW_some] <;> rfl)|(simp [*,errW_none,errW_some] <;> rfl),by repeat (first|(with_reducible first|exact L.1|apply below_alloc|apply pw_below_drewN|apply below_drew1|refine below_set ?_ I.1)|exact L.1)⟩
   ·
    (replace s2:=Bool.eq_false_iff.mpr s2;subst s2;have H1:((count_Count.f kj3 M D O).bind fun u8=>((count_Least.f kj3 M D).bind fun u9=>(if J=3 then (bellpulllaw05_CountCounts.j1 kj3 D J u8.1 u8.2 u9.1 u9.2 J false M O Q T U) else ((bellpullref01_In.f O 0 20).bind fun y0=>(bellpulllaw05_CountCounts.j1 kj3 D J u8.1 u8.2 u9.1 u9.2 J (!y0) M O Q T U)))))=some r:=by rw [if_neg (show ¬ (false=true) by decide)] at H;exact H);clear H;have H:=H1;clear H1;replace H:=Option.bind_eq_some_iff.mp H;obtain ⟨⟨e1,e2⟩,G1,H⟩:=H;(try dsimp only at H);have R7:=mk0 G1;clear G1;replace H:=Option.bind_eq_some_iff.mp H;obtain ⟨⟨a0,a6⟩,G2,H⟩:=H;(try dsimp only at H);have D8:=mk0 G2;clear G2;have B4:=mk0 H;clear H;have g3:=q0_ B;have g4:=q1_ B;have g5:=q2_ B;have g6:=q3_ B;have g7:=((blk_cell B.1 4).trans rfl);have g8:=blk_frozen B.1 0;have g9:=blk_frozen B.1 1;have h0:=blk_frozen B.1 2;have h1:=blk_frozen B.1 3;have h2:=blk_frozen B.1 4;go_upto_region 8 with (first|((with_reducible refine gate_callee (f:=35) rfl ?_);refine goesL_ (some 38) rfl rfl Try.func35 (by kernel_rfl) rfl #[.int .i64 M,.slice o1 D.length n7,.int .i64 O] rfl (by (try simp only [m0_,m1_,m2_]);first|done|rfl|(simp only [l0_,l1_];rfl)) ?_;(with_reducible refine (count_Count.calls kj3 M _ _ D O e1 e2 _ ?side1 ?side2 R7.1).mono ?_);(case side1=>repeat (first|exact (Kd.N_reads' F.1).2.2|(with_reducible refine Kd.C_alloc ?_ _)|(with_reducible refine Kd.C_drewN ?_ _)|(with_reducible refine Kd.C_drew ?_)));(case side2=>exact (Kd.N_reads' F.1).2.1);rintro e X6 ⟨rfl,hb⟩;refine ⟨_,rfl,?_⟩;replace F:=mk0 (Kd.N_below (by (with_reducible repeat (first|apply Kd.N_alloc|apply Kd.N_drewN|apply Kd.N_drew));exact F.1) hb);replace B:=mk0 (blk_below (g:=G) (o:=.cells #[.int .i64 M,.int .i64 O,.slice b1 Q.length b2,.slice b3 T.length b4,.slice b5 U.length b6] 25 (0,0)) (by (with_reducible repeat (first|refine blk_drewN ?_ _|refine blk_drew ?_|refine blk_alloc ?_ _));exact B.1) hb);replace L:=mk0 (below_step (by repeat (first|(with_reducible first|exact L.1|apply below_alloc|apply pw_below_drewN|apply below_drew1|refine below_set ?_ I.1)|exact L.1)) hb);(try clear hb);have h3:=q0_ B;have h4:=q1_ B;have h5:=q2_ B;have h6:=q3_ B;have h7:=((blk_cell B.1 4).trans rfl);have h8:=blk_frozen B.1 0;have h9:=blk_frozen B.1 1;have i0:=blk_frozen B.1 2;have i1:=blk_frozen B.1 3;have i2:=blk_frozen B.1 4)|((with_reducible refine gate_callee (f:=46) rfl ?_);refine goesL_ (some 45) rfl rfl Try.func46 (by kernel_rfl) rfl #[.int .i64 M,.slice o1 D.length n7] rfl (by (try simp only [m0_,m1_,m2_]);first|done|rfl|(simp only [l0_,l1_];rfl)) ?_;(with_reducible refine (count_Least.calls kj3 M _ _ D a0 a6 _ ?side1 ?side2 D8.1).mono ?_);(case side1=>repeat (first|exact (Kd.N_reads' F.1).2.2|(with_reducible refine Kd.C_alloc ?_ _)|(with_reducible refine Kd.C_drewN ?_ _)|(with_reducible refine Kd.C_drew ?_)));(case side2=>exact (Kd.N_reads' F.1).2.1);rintro e X7 ⟨d3,rfl,r8,hb⟩;refine ⟨_,rfl,?_⟩;have B2:=mk0 (Kd.R_lower r8 (below_size (by repeat (first|(with_reducible first|exact L.1|apply below_alloc|apply pw_below_drewN|apply below_drew1|refine below_set ?_ I.1)|exact L.1))));replace F:=mk0 (Kd.N_elder' (by (with_reducible repeat (first|apply Kd.N_alloc|apply Kd.N_drewN|apply Kd.N_drew));exact F.1) (Kd.R_base r8) hb);replace B:=mk0 (blk_below (g:=G) (o:=.cells #[.int .i64 M,.int .i64 O,.slice b1 Q.length b2,.slice b3 T.length b4,.slice b5 U.length b6] 25 (0,0)) (by (with_reducible repeat (first|refine blk_drewN ?_ _|refine blk_drew ?_|refine blk_alloc ?_ _));exact B.1) hb);replace L:=mk0 (below_step (by repeat (first|(with_reducible first|exact L.1|apply below_alloc|apply pw_below_drewN|apply below_drew1|refine below_set ?_ I.1)|exact L.1)) hb);(try clear hb);(try clear r8)));(try simp only [Act.put,s0_,s1_,s2_]);go_cut [56] (fun R8 wc=>∃ (kq:Nat) (v0:Bool),R8=.bool v0∧Aside0 (bellpulllaw05_CountCounts.j1 kq D J e1 e2 a0 a6 J v0 M O Q T U=some r)∧Aside0 (kq ≤ kj3)∧Aside0 (Kd.N k60 60 wc w.heap.size (fun k_=>some k_ ≠ (d3:Value).ownBlock∧k_ ≠ G) (.slice o1 D.length n7) D)∧Aside0 (Kd.R (Kd.int .i64) 3 wc w.heap.size (fun _=>True) d3 a0)∧Aside0 (wc.heap[G]?=some (.cells #[.int .i64 M,.int .i64 O,(.slice b1 Q.length b2),(.slice b3 T.length b4),(.slice b5 U.length b6)] 25 (0,0)))∧Aside0 (Below w.heap.size w wc));case first =>have H:=B4.1;clear B4;by_cases c26:J=3;(· rw [if_pos c26] at H;have c26b0:(J == 3)=true:=beq_iff_eq.mpr c26;have c26b1:(J != 3)=false:=bne_eq_false_iff_eq.mpr c26;clear c26;(first|rw [c26b0]|(simp only [i64_w,i32_w];rw [c26b0])|skip);have H':=mk0 H;clear H;go_wp2;go_meet;case rel=>exact ⟨_,(false),(by first|rfl|(simp;done)|(simp [*];done)),H',⟨by have:=e7.1;first|omega|exact Nat.le_refl _⟩,⟨by (with_reducible repeat (first|apply Kd.N_alloc|apply Kd.N_drewN|apply Kd.N_drew));exact Kd.N_mono F.1 (fun _ hk=>⟨hk.2,hk.1⟩)⟩,⟨by (with_reducible repeat (first|apply Kd.R_alloc|apply Kd.R_drewN|apply Kd.R_drew));exact B2.1⟩,⟨by (with_reducible repeat (first|refine blk_drewN ?_ _|refine blk_drew ?_|refine blk_alloc ?_ _));exact B.1⟩,⟨by repeat (first|(with_reducible first|exact L.1|apply below_alloc|apply pw_below_drewN|apply below_drew1|refine below_set ?_ I.1)|exact L.1)⟩⟩);· rw [if_neg c26] at H;have c26b0:(J == 3)=false:=beq_eq_false_iff_ne.mpr c26;have c26b1:(J != 3)=true:=bne_iff_ne.mpr c26;(first|rw [c26b0]|(simp only [i64_w,i32_w];rw [c26b0])|skip);replace H:=Option.bind_eq_some_iff.mp H;obtain ⟨y0,G3,H⟩:=H;(try dsimp only at H);have R9:=mk0 G3;clear G3;have H':=mk0 H;clear H;have i3:=q0_ B;have i4:=q1_ B;have i5:=q2_ B;have i6:=q3_ B;have i7:=((blk_cell B.1 4).trans rfl);have i8:=blk_frozen B.1 0;have i9:=blk_frozen B.1 1;have j3:=blk_frozen B.1 2;have j7:=blk_frozen B.1 3;have j8:=blk_frozen B.1 4;go_wp2_with (first|(go_at_call 20;(with_reducible refine (bellpullref01_In.calls O 0 20 y0 _ R9.1).mono ?_);rintro e w' ⟨rfl,⟨nd,rfl⟩⟩));go_meet;case rel=>exact ⟨_,(!y0),(by first|rfl|(simp;done)|(simp [*];done)),H',⟨by have:=e7.1;first|omega|exact Nat.le_refl _⟩,⟨by (with_reducible repeat (first|apply Kd.N_alloc|apply Kd.N_drewN|apply Kd.N_drew));exact Kd.N_mono F.1 (fun _ hk=>⟨hk.2,hk.1⟩)⟩,⟨by (with_reducible repeat (first|apply Kd.R_alloc|apply Kd.R_drewN|apply Kd.R_drew));exact B2.1⟩,⟨by (with_reducible repeat (first|refine blk_drewN ?_ _|refine blk_drew ?_|refine blk_alloc ?_ _));exact B.1⟩,⟨by repeat (first|(with_reducible first|exact L.1|apply below_alloc|apply pw_below_drewN|apply below_drew1|refine below_set ?_ I.1)|exact L.1)⟩⟩
    case rest =>
     (clear B4;try clear c1);(try clear c2);(try clear p2);(try clear c3);(try clear c4);(try clear c14);(try clear c14b0);(try clear c14b1);(try clear c15);(try clear s2);(try clear c17);(try clear c19);(try clear c22);(try clear c26);(try clear c26b0);(try clear c26b1);(try clear g3);(try clear g4);(try clear g5);(try clear g6);(try clear g7);(try clear h3);(try clear h4);(try clear h5);(try clear h6);(try clear h7);(try clear i3);(try clear i4);(try clear i5);(try clear i6);(try clear i7);(try clear l7);(try clear l8);(try clear l9);(try clear m0);(try clear m1);(try clear m7);(try clear m8);(try clear m9);(try clear n0);(try clear n1);(try clear g8);(try clear g9);(try clear h0);(try clear h1);(try clear h2);(try clear h8);(try clear h9);(try clear i0);(try clear i1);(try clear i2);(try clear i8);(try clear i9);(try clear j3);(try clear j7);(try clear j8);(try clear m2);(try clear m3);(try clear m4);(try clear m5);(try clear m6);(try clear n2);(try clear n3);(try clear n4);(try clear n5);(try clear n6);try clear p2
     obtain ⟨kq,v0,rfl,HA,d5,F,Z,B,L⟩:=hcut;cases kq with
     | zero=>exact absurd HA.1 (by simp [bellpulllaw05_CountCounts.j1])
     | succ kj20 =>
      have H:=HA.1;clear HA;simp only [bellpulllaw05_CountCounts.j1] at H;have B5:=mk0 H;clear H;go_upto_if 56 with (fail);go_cut [9] (fun v9 wc=>∃ (kq:Nat) (g1:Int),v9=.int .i64 g1∧Aside0 (bellpulllaw05_CountCounts.j2 kq D J e1 e2 a0 a6 g1 M O Q T U=some r)∧Aside0 (kq ≤ kj20)∧Aside0 (Kd.N k60 60 wc w.heap.size (fun k_=>some k_ ≠ (d3:Value).ownBlock∧k_ ≠ G) (.slice o1 D.length n7) D)∧Aside0 (Kd.R (Kd.int .i64) 3 wc w.heap.size (fun _=>True) d3 a0)∧Aside0 (wc.heap[G]?=some (.cells #[.int .i64 M,.int .i64 O,(.slice b1 Q.length b2),(.slice b3 T.length b4),(.slice b5 U.length b6)] 25 (0,0)))∧Aside0 (Below w.heap.size w wc));case first =>have H:=B5.1;clear B5;by_cases s5:v0=true;(· (subst s5;have H1:(bellpulllaw05_CountCounts.j2 kj20 D J e1 e2 a0 a6 1 M O Q T U)=some r:=by rw [if_pos rfl] at H;exact H);clear H;have H:=H1;clear H1;have H':=mk0 H;clear H;go_wp2;go_meet;case rel=>exact ⟨_,(1),(by first|rfl|(simp;done)|(simp [*];done)),H',⟨by have:=e7.1;have:=d5.1;first|omega|exact Nat.le_refl _⟩,⟨by (with_reducible repeat (first|apply Kd.N_alloc|apply Kd.N_drewN|apply Kd.N_drew));exact F.1⟩,⟨by (with_reducible repeat (first|apply Kd.R_alloc|apply Kd.R_drewN|apply Kd.R_drew));exact Z.1⟩,⟨by (with_reducible repeat (first|refine blk_drewN ?_ _|refine blk_drew ?_|refine blk_alloc ?_ _));exact B.1⟩,⟨by repeat (first|(with_reducible first|exact L.1|apply below_alloc|apply pw_below_drewN|apply below_drew1|refine below_set ?_ I.1)|exact L.1)⟩⟩);· (replace s5:=Bool.eq_false_iff.mpr s5;subst s5;have H1:(bellpulllaw05_CountCounts.j2 kj20 D J e1 e2 a0 a6 J M O Q T U)=some r:=by rw [if_neg (show ¬ (false=true) by decide)] at H;exact H);clear H;have H:=H1;clear H1;have H':=mk0 H;clear H;go_wp2;go_meet;case rel=>exact ⟨_,(J),(by first|rfl|(simp;done)|(simp [*];done)),H',⟨by have:=e7.1;have:=d5.1;first|omega|exact Nat.le_refl _⟩,⟨by (with_reducible repeat (first|apply Kd.N_alloc|apply Kd.N_drewN|apply Kd.N_drew));exact F.1⟩,⟨by (with_reducible repeat (first|apply Kd.R_alloc|apply Kd.R_drewN|apply Kd.R_drew));exact Z.1⟩,⟨by (with_reducible repeat (first|refine blk_drewN ?_ _|refine blk_drew ?_|refine blk_alloc ?_ _));exact B.1⟩,⟨by repeat (first|(with_reducible first|exact L.1|apply below_alloc|apply pw_below_drewN|apply below_drew1|refine below_set ?_ I.1)|exact L.1)⟩⟩
      case rest =>
       (clear B5;try clear c1);(try clear c2);(try clear p2);(try clear c3);(try clear c4);(try clear c14);(try clear c14b0);(try clear c14b1);(try clear c15);(try clear s2);(try clear c17);(try clear c19);(try clear c22);(try clear c26);(try clear c26b0);(try clear c26b1);(try clear s5);(try clear g3);(try clear g4);(try clear g5);(try clear g6);(try clear g7);(try clear h3);(try clear h4);(try clear h5);(try clear h6);(try clear h7);(try clear i3);(try clear i4);(try clear i5);(try clear i6);(try clear i7);(try clear l7);(try clear l8);(try clear l9);(try clear m0);(try clear m1);(try clear m7);(try clear m8);(try clear m9);(try clear n0);(try clear n1);(try clear g8);(try clear g9);(try clear h0);(try clear h1);(try clear h2);(try clear h8);(try clear h9);(try clear i0);(try clear i1);(try clear i2);(try clear i8);(try clear i9);(try clear j3);(try clear j7);(try clear j8);(try clear m2);(try clear m3);(try clear m4);(try clear m5);(try clear m6);(try clear n2);(try clear n3);(try clear n4);(try clear n5);(try clear n6);try clear p2
       obtain ⟨kq,g1,rfl,HA,e0,F,Z,B,L⟩:=hcut;cases kq with
       | zero=>exact absurd HA.1 (by simp [bellpulllaw05_CountCounts.j2])
       | succ kj28 =>
        have H:=HA.1;clear HA;simp only [bellpulllaw05_CountCounts.j2] at H;have B6:=mk0 H;clear H;go_upto_if 58 with (fail);go_cut [] (fun wc=>∃ (kq:Nat),Aside0 (bellpulllaw05_CountCounts.j4 kq D J a0 a6=some r)∧Aside0 (kq ≤ kj28)∧Aside0 (Kd.N k60 60 wc w.heap.size (fun k_=>some k_ ≠ (d3:Value).ownBlock∧k_ ≠ G) (.slice o1 D.length n7) D)∧Aside0 (Kd.R (Kd.int .i64) 3 wc w.heap.size (fun _=>True) d3 a0)∧Aside0 (wc.heap[G]?=some (.cells #[.int .i64 M,.int .i64 O,(.slice b1 Q.length b2),(.slice b3 T.length b4),(.slice b5 U.length b6)] 25 (0,0)))∧Aside0 (Below w.heap.size w wc))
        case first =>
         have H:=B6.1;clear B6;by_cases c32:g1=0
         ·
          rw [if_pos c32] at H;have c32b0:(g1 == 0)=true:=beq_iff_eq.mpr c32;have c32b1:(g1 != 0)=false:=bne_eq_false_iff_eq.mpr c32;clear c32;(first|rw [c32b0]|(simp only [i64_w,i32_w];rw [c32b0])|skip);replace H:=Option.bind_eq_some_iff.mp H;obtain ⟨d4,G4,H⟩:=H;(try dsimp only at H);have T0:=mk0 G4;clear G4;have H':=mk0 H;clear H;have p9:=q0_ B;have q0:=q1_ B;have q2:=q2_ B;have q3:=q3_ B;have q4:=((blk_cell B.1 4).trans rfl);have q5:=blk_frozen B.1 0;have q6:=blk_frozen B.1 1;have q7:=blk_frozen B.1 2;have q8:=blk_frozen B.1 3;have q9:=blk_frozen B.1 4;go_wp2_with (first|((with_reducible refine gate_callee (f:=37) rfl ?_);refine goesL_ (some 70) rfl rfl Try.func37 (by kernel_rfl) rfl #[.int .i64 M,.int .i64 O] rfl (by (try simp only [m0_,m1_,m2_]);first|done|rfl|(simp only [l0_,l1_];rfl)) ?_;(with_reducible refine (bellpullref05_All.calls kj28 M O d4 _ T0.1).mono ?_);rintro e X8 ⟨D9,rfl,r8,hb⟩;refine ⟨_,rfl,?_⟩;have G5:=mk0 (Kd.N_lower (Kd.N_mono (ok':=fun k_=>some k_ ≠ (.slice o1 D.length n7:Value).ownBlock∧some k_ ≠ (d3:Value).ownBlock∧k_ ≠ G) r8 (fun k_ hk_=>⟨(Kd.fresh' (Kd.N_lt (by (with_reducible repeat (first|apply Kd.N_alloc|apply Kd.N_drewN|apply Kd.N_drew));exact F.1)) k_ hk_),(Kd.fresh' (Kd.R_lt (by (with_reducible repeat (first|apply Kd.R_alloc|apply Kd.R_drewN|apply Kd.R_drew));exact Z.1)) k_ hk_),(Kd.freshB (g:=G) (o:=.cells #[.int .i64 M,.int .i64 O,.slice b1 Q.length b2,.slice b3 T.length b4,.slice b5 U.length b6] 25 (0,0)) (by (with_reducible repeat (first|refine blk_drewN ?_ _|refine blk_drew ?_|refine blk_alloc ?_ _));exact B.1) k_ hk_)⟩)) (below_size (by repeat (first|(with_reducible first|exact L.1|apply below_alloc|apply pw_below_drewN|apply below_drew1|refine below_set ?_ I.1)|exact L.1))));replace F:=mk0 (Kd.N_elder' (by (with_reducible repeat (first|apply Kd.N_alloc|apply Kd.N_drewN|apply Kd.N_drew));exact F.1) (by first|exact Kd.N_base r8|exact Kd.S_base r8|exact Kd.R_base r8) hb);replace Z:=mk0 (Kd.R_below (by (with_reducible repeat (first|apply Kd.R_alloc|apply Kd.R_drewN|apply Kd.R_drew));exact Z.1) hb);replace B:=mk0 (blk_below (g:=G) (o:=.cells #[.int .i64 M,.int .i64 O,.slice b1 Q.length b2,.slice b3 T.length b4,.slice b5 U.length b6] 25 (0,0)) (by (with_reducible repeat (first|refine blk_drewN ?_ _|refine blk_drew ?_|refine blk_alloc ?_ _));exact B.1) hb);replace L:=mk0 (below_step (by repeat (first|(with_reducible first|exact L.1|apply below_alloc|apply pw_below_drewN|apply below_drew1|refine below_set ?_ I.1)|exact L.1)) hb);(try clear hb);(try clear r8)));go_loopg [10,12] kj28 (fun kq T1 T2 w'=>∃ (l6:Int) (a1:Int),T1=.int .i64 l6∧T2=.int .i64 a1∧Aside0 (bellpulllaw05_CountCounts.l0 kq D J e1 e2 a0 a6 l6 d4 a1=some r)∧Aside0 (kq ≤ kj28)∧Aside0 (Kd.N k60 60 w' w.heap.size (fun k_=>some k_ ≠ (d3:Value).ownBlock∧some k_ ≠ (D9:Value).ownBlock∧k_ ≠ G) (.slice o1 D.length n7) D)∧Aside0 (Kd.R (Kd.int .i64) 3 w' w.heap.size (fun _=>True) d3 a0)∧Aside0 (Kd.N (Kd.slice 3 (Kd.int .i64)) 23 w' w.heap.size (fun k_=>some k_ ≠ ((.slice o1 D.length n7):Value).ownBlock∧some k_ ≠ (d3:Value).ownBlock∧k_ ≠ G) D9 d4)∧Aside0 (w'.heap[G]?=some (.cells #[.int .i64 M,.int .i64 O,(.slice b1 Q.length b2),(.slice b3 T.length b4),(.slice b5 U.length b6)] 25 (0,0)))∧Aside0 (Below w.heap.size w w'));case atStart=>exact ⟨(0),(0),(by first|rfl|(simp;done)|(simp [*];done)),(by first|rfl|(simp;done)|(simp [*];done)),H',⟨Nat.le_refl _⟩,⟨by (with_reducible repeat (first|apply Kd.N_alloc|apply Kd.N_drewN|apply Kd.N_drew));exact Kd.N_mono F.1 (fun _ hk=>⟨hk.1.1,⟨hk.2,hk.1.2⟩⟩)⟩,⟨by (with_reducible repeat (first|apply Kd.R_alloc|apply Kd.R_drewN|apply Kd.R_drew));exact Z.1⟩,⟨by (with_reducible repeat (first|apply Kd.N_alloc|apply Kd.N_drewN|apply Kd.N_drew));exact G5.1⟩,⟨by (with_reducible repeat (first|refine blk_drewN ?_ _|refine blk_drew ?_|refine blk_alloc ?_ _));exact B.1⟩,⟨by repeat (first|(with_reducible first|exact L.1|apply below_alloc|apply pw_below_drewN|apply below_drew1|refine below_set ?_ I.1)|exact L.1)⟩⟩
          case round =>
           (clear H';try clear c1);(try clear c2);(try clear p2);(try clear c3);(try clear c4);(try clear c14);(try clear c14b0);(try clear c14b1);(try clear c15);(try clear s2);(try clear c17);(try clear c19);(try clear c22);(try clear c26);(try clear c26b0);(try clear c26b1);(try clear s5);(try clear c32);(try clear c32b0);(try clear c32b1);(try clear c35);(try clear g3);(try clear g4);(try clear g5);(try clear g6);(try clear g7);(try clear h3);(try clear h4);(try clear h5);(try clear h6);(try clear h7);(try clear i3);(try clear i4);(try clear i5);(try clear i6);(try clear i7);(try clear p9);(try clear q0);(try clear q2);(try clear q3);(try clear q4);(try clear l7);(try clear l8);(try clear l9);(try clear m0);(try clear m1);(try clear m7);(try clear m8);(try clear m9);(try clear n0);(try clear n1);(try clear g8);(try clear g9);(try clear h0);(try clear h1);(try clear h2);(try clear h8);(try clear h9);(try clear i0);(try clear i1);(try clear i2);(try clear i8);(try clear i9);(try clear j3);(try clear j7);(try clear j8);(try clear q5);(try clear q6);(try clear q7);(try clear q8);(try clear q9);(try clear m2);(try clear m3);(try clear m4);(try clear m5);(try clear m6);(try clear n2);(try clear n3);(try clear n4);(try clear n5);(try clear n6);try clear p2
           obtain ⟨l6,a1,rfl,rfl,HA,B3,F,Z,d6,B,L⟩:=hrel;cases gk with
           | zero=>exact absurd HA.1 (by simp [bellpulllaw05_CountCounts.l0])
           | succ k4 =>have H:=HA.1;clear HA;simp only [bellpulllaw05_CountCounts.l0] at H;by_cases c36:a1 < (d4.length:Int);(· rw [if_pos c36] at H;have c36b0:decide (a1 < (d4.length:Int))=true:=decide_eq_true c36;clear c36;by_cases c37:0 ≤ a1;(· rw [if_pos c37] at H;have c37b0:decide (0 ≤ a1)=true:=decide_eq_true c37;clear c37;replace H:=Option.bind_eq_some_iff.mp H;obtain ⟨I2,G6,H⟩:=H;(try dsimp only at H);have J0:=mk0 G6;clear G6;by_cases x7:I2=true;(· (subst x7;have H1:(bellpulllaw05_CountCounts.l0 k4 D J e1 e2 a0 a6 (wrap64 (l6 + 1)) d4 (wrap64 (a1 + 1)))=some r:=by rw [if_pos rfl] at H;exact H);clear H;have H:=H1;clear H1;have H':=mk0 H;clear H;obtain ⟨V4,V5,J5⟩:=Kd.N_slice d6.1;subst J5;have e5:0 ≤ (a1:Int):=of_decide_eq_true (by first|(with_reducible assumption)|assumption);have e6:a1 < (d4.length:Int):=of_decide_eq_true (by first|(with_reducible assumption)|assumption);obtain ⟨G7,v5,v6,A8,f3,o2,o3⟩:=at_L1 (Kd.N_reads' d6.1).2.2 a1 e5 e6;cases A8;obtain ⟨G8,v7,v8,r0⟩:=Kd.N_get d6.1 [] a1 e5 (by first|exact e6|exact of_decide_eq_true (by first|(with_reducible assumption)|assumption)|(have e_:=(Kd.N_reads' d6.1).1;omega));obtain ⟨B7,B8,rfl,f4,f5⟩:=Kd.FK_slice_open v8;have d7:=r0 0 _ rfl;rw [Nat.add_zero,show ((Kd.slice 3 (Kd.int .i64))).sz=1 from rfl,Nat.mul_one] at d7;replace d7:=Option.some.inj (d7.symm.trans f3);injection d7 with hva_ hvn_ hvc_;rw [hva_] at f5;rw [hvc_] at f4;have o4:=mk0 (show Kd.V (Kd.int .i64) 3 _ w.heap.size _ _ (rd_L1 d4 a1) from Kd.V_mk f4 f5);clear hva_ hvn_ hvc_ f5 f4;clear r0 v7;have b9:=mk0 o3;have s6:=mk0 o2;clear o3 o2;replace e5:=eq_true e5;replace e6:=eq_true e6;go_wp2_with (first|((with_reducible refine gate_callee (f:=24) rfl ?_);refine goesL_ (some 82) rfl rfl Try.func24 (by kernel_rfl) rfl #[.slice o1 D.length n7,.slice v5 (rd_L1 d4 a1).length v6] rfl (by (try simp only [m0_,m1_,m2_]);first|done|rfl|(simp only [l0_,l1_];rfl)) ?_;(with_reducible refine (bellpullref05_Has.calls k4 _ _ D _ _ (rd_L1 d4 a1) true _ ?side1 ?side2 ?side3 ?side4 J0.1).mono ?_);(case side1=>repeat (first|exact (Kd.N_reads' F.1).2.2|(with_reducible refine Kd.C_alloc ?_ _)|(with_reducible refine Kd.C_drewN ?_ _)|(with_reducible refine Kd.C_drew ?_)));(case side2=>exact (Kd.N_reads' F.1).2.1);(case side3=>repeat (first|exact (by repeat (first|(with_reducible exact b9.1)|(with_reducible refine Kd.C_alloc ?_ _)|(with_reducible refine Kd.C_drewN ?_ _)|(with_reducible refine Kd.C_drew ?_)|exact b9.1))|(with_reducible refine Kd.C_alloc ?_ _)|(with_reducible refine Kd.C_drewN ?_ _)|(with_reducible refine Kd.C_drew ?_)));(case side4=>exact s6.1);rintro e X9 ⟨rfl,hb⟩;refine ⟨_,rfl,?_⟩;replace F:=mk0 (Kd.N_below (by (with_reducible repeat (first|apply Kd.N_alloc|apply Kd.N_drewN|apply Kd.N_drew));exact F.1) hb);replace Z:=mk0 (Kd.R_below (by (with_reducible repeat (first|apply Kd.R_alloc|apply Kd.R_drewN|apply Kd.R_drew));exact Z.1) hb);replace d6:=mk0 (Kd.N_below (by (with_reducible repeat (first|apply Kd.N_alloc|apply Kd.N_drewN|apply Kd.N_drew));exact d6.1) hb);replace o4:=mk0 (Kd.V_below (by (with_reducible repeat (first|apply Kd.V_alloc|apply Kd.V_drewN|apply Kd.V_drew));exact o4.1) hb);replace B:=mk0 (blk_below (g:=G) (o:=.cells #[.int .i64 M,.int .i64 O,.slice b1 Q.length b2,.slice b3 T.length b4,.slice b5 U.length b6] 25 (0,0)) (by (with_reducible repeat (first|refine blk_drewN ?_ _|refine blk_drew ?_|refine blk_alloc ?_ _));exact B.1) hb);replace b9:=mk0 (Kd.C_below (by repeat (first|(with_reducible exact b9.1)|(with_reducible refine Kd.C_alloc ?_ _)|(with_reducible refine Kd.C_drewN ?_ _)|(with_reducible refine Kd.C_drew ?_)|exact b9.1)) hb);replace L:=mk0 (below_step (by repeat (first|(with_reducible first|exact L.1|apply below_alloc|apply pw_below_drewN|apply below_drew1|refine below_set ?_ I.1)|exact L.1)) hb);(try clear hb)));go_roundg k4;(case measure=>have:=e7.1;have:=d5.1;have:=e0.1;have:=B3.1;omega);case rel=>exact ⟨(wrap64 (l6 + 1)),(wrap64 (a1 + 1)),(by first|rfl|(simp;done)|(simp [*];done)),(by first|rfl|(simp;done)|(simp [*];done)),H',⟨by have:=e7.1;have:=d5.1;have:=e0.1;have:=B3.1;omega⟩,⟨by (with_reducible repeat (first|apply Kd.N_alloc|apply Kd.N_drewN|apply Kd.N_drew));exact F.1⟩,⟨by (with_reducible repeat (first|apply Kd.R_alloc|apply Kd.R_drewN|apply Kd.R_drew));exact Z.1⟩,⟨by (with_reducible repeat (first|apply Kd.N_alloc|apply Kd.N_drewN|apply Kd.N_drew));exact d6.1⟩,⟨by (with_reducible repeat (first|refine blk_drewN ?_ _|refine blk_drew ?_|refine blk_alloc ?_ _));exact B.1⟩,⟨by repeat (first|(with_reducible first|exact L.1|apply below_alloc|apply pw_below_drewN|apply below_drew1|refine below_set ?_ I.1)|exact L.1)⟩⟩);· (replace x7:=Bool.eq_false_iff.mpr x7;subst x7;have H1:(bellpulllaw05_CountCounts.l0 k4 D J e1 e2 a0 a6 l6 d4 (wrap64 (a1 + 1)))=some r:=by rw [if_neg (show ¬ (false=true) by decide)] at H;exact H);clear H;have H:=H1;clear H1;have H':=mk0 H;clear H;obtain ⟨V6,V7,J6⟩:=Kd.N_slice d6.1;subst J6;have e5:0 ≤ (a1:Int):=of_decide_eq_true (by first|(with_reducible assumption)|assumption);have e6:a1 < (d4.length:Int):=of_decide_eq_true (by first|(with_reducible assumption)|assumption);obtain ⟨G7,v5,v6,A8,f3,o2,o3⟩:=at_L1 (Kd.N_reads' d6.1).2.2 a1 e5 e6;cases A8;obtain ⟨G8,v7,v8,r0⟩:=Kd.N_get d6.1 [] a1 e5 (by first|exact e6|exact of_decide_eq_true (by first|(with_reducible assumption)|assumption)|(have e_:=(Kd.N_reads' d6.1).1;omega));obtain ⟨B7,B8,rfl,f4,f5⟩:=Kd.FK_slice_open v8;have d7:=r0 0 _ rfl;rw [Nat.add_zero,show ((Kd.slice 3 (Kd.int .i64))).sz=1 from rfl,Nat.mul_one] at d7;replace d7:=Option.some.inj (d7.symm.trans f3);injection d7 with hva_ hvn_ hvc_;rw [hva_] at f5;rw [hvc_] at f4;have o4:=mk0 (show Kd.V (Kd.int .i64) 3 _ w.heap.size _ _ (rd_L1 d4 a1) from Kd.V_mk f4 f5);clear hva_ hvn_ hvc_ f5 f4;clear r0 v7;have b9:=mk0 o3;have s6:=mk0 o2;clear o3 o2;replace e5:=eq_true e5;replace e6:=eq_true e6;go_wp2_with (first|((with_reducible refine gate_callee (f:=24) rfl ?_);refine goesL_ (some 82) rfl rfl Try.func24 (by kernel_rfl) rfl #[.slice o1 D.length n7,.slice v5 (rd_L1 d4 a1).length v6] rfl (by (try simp only [m0_,m1_,m2_]);first|done|rfl|(simp only [l0_,l1_];rfl)) ?_;(with_reducible refine (bellpullref05_Has.calls k4 _ _ D _ _ (rd_L1 d4 a1) false _ ?side1 ?side2 ?side3 ?side4 J0.1).mono ?_);(case side1=>repeat (first|exact (Kd.N_reads' F.1).2.2|(with_reducible refine Kd.C_alloc ?_ _)|(with_reducible refine Kd.C_drewN ?_ _)|(with_reducible refine Kd.C_drew ?_)));(case side2=>exact (Kd.N_reads' F.1).2.1);(case side3=>repeat (first|exact (by repeat (first|(with_reducible exact b9.1)|(with_reducible refine Kd.C_alloc ?_ _)|(with_reducible refine Kd.C_drewN ?_ _)|(with_reducible refine Kd.C_drew ?_)|exact b9.1))|(with_reducible refine Kd.C_alloc ?_ _)|(with_reducible refine Kd.C_drewN ?_ _)|(with_reducible refine Kd.C_drew ?_)));(case side4=>exact s6.1);rintro e Y0 ⟨rfl,hb⟩;refine ⟨_,rfl,?_⟩;replace F:=mk0 (Kd.N_below (by (with_reducible repeat (first|apply Kd.N_alloc|apply Kd.N_drewN|apply Kd.N_drew));exact F.1) hb);replace Z:=mk0 (Kd.R_below (by (with_reducible repeat (first|apply Kd.R_alloc|apply Kd.R_drewN|apply Kd.R_drew));exact Z.1) hb);replace d6:=mk0 (Kd.N_below (by (with_reducible repeat (first|apply Kd.N_alloc|apply Kd.N_drewN|apply Kd.N_drew));exact d6.1) hb);replace o4:=mk0 (Kd.V_below (by (with_reducible repeat (first|apply Kd.V_alloc|apply Kd.V_drewN|apply Kd.V_drew));exact o4.1) hb);replace B:=mk0 (blk_below (g:=G) (o:=.cells #[.int .i64 M,.int .i64 O,.slice b1 Q.length b2,.slice b3 T.length b4,.slice b5 U.length b6] 25 (0,0)) (by (with_reducible repeat (first|refine blk_drewN ?_ _|refine blk_drew ?_|refine blk_alloc ?_ _));exact B.1) hb);replace b9:=mk0 (Kd.C_below (by repeat (first|(with_reducible exact b9.1)|(with_reducible refine Kd.C_alloc ?_ _)|(with_reducible refine Kd.C_drewN ?_ _)|(with_reducible refine Kd.C_drew ?_)|exact b9.1)) hb);replace L:=mk0 (below_step (by repeat (first|(with_reducible first|exact L.1|apply below_alloc|apply pw_below_drewN|apply below_drew1|refine below_set ?_ I.1)|exact L.1)) hb);(try clear hb)));go_roundg k4;(case measure=>have:=e7.1;have:=d5.1;have:=e0.1;have:=B3.1;omega);case rel=>exact ⟨(l6),(wrap64 (a1 + 1)),(by first|rfl|(simp;done)|(simp [*];done)),(by first|rfl|(simp;done)|(simp [*];done)),H',⟨by have:=e7.1;have:=d5.1;have:=e0.1;have:=B3.1;omega⟩,⟨by (with_reducible repeat (first|apply Kd.N_alloc|apply Kd.N_drewN|apply Kd.N_drew));exact F.1⟩,⟨by (with_reducible repeat (first|apply Kd.R_alloc|apply Kd.R_drewN|apply Kd.R_drew));exact Z.1⟩,⟨by (with_reducible repeat (first|apply Kd.N_alloc|apply Kd.N_drewN|apply Kd.N_drew));exact d6.1⟩,⟨by (with_reducible repeat (first|refine blk_drewN ?_ _|refine blk_drew ?_|refine blk_alloc ?_ _));exact B.1⟩,⟨by repeat (first|(with_reducible first|exact L.1|apply below_alloc|apply pw_below_drewN|apply below_drew1|refine below_set ?_ I.1)|exact L.1)⟩⟩);· rw [if_neg c37] at H;exact absurd H (by simp));· rw [if_neg c36] at H;have c36b0:decide (a1 < (d4.length:Int))=false:=decide_eq_false c36;clear c36;by_cases c44:e1=l6;(· rw [if_pos c44] at H;have c44b0:(e1 == l6)=true:=beq_iff_eq.mpr c44;have c44b1:(e1 != l6)=false:=bne_eq_false_iff_eq.mpr c44;clear c44;by_cases c45:e2=0;(· rw [if_pos c45] at H;have c45b0:(e2 == 0)=true:=beq_iff_eq.mpr c45;have c45b1:(e2 != 0)=false:=bne_eq_false_iff_eq.mpr c45;clear c45;have H':=mk0 H;clear H;obtain ⟨V8,V9,J7⟩:=Kd.N_slice d6.1;subst J7;go_wp2;go_meet;case rel=>exact ⟨_,H',⟨by have:=e7.1;have:=d5.1;have:=e0.1;have:=B3.1;first|omega|exact Nat.le_refl _⟩,⟨by (with_reducible repeat (first|apply Kd.N_alloc|apply Kd.N_drewN|apply Kd.N_drew));exact Kd.N_mono F.1 (fun _ hk=>⟨hk.1,hk.2.2⟩)⟩,⟨by (with_reducible repeat (first|apply Kd.R_alloc|apply Kd.R_drewN|apply Kd.R_drew));exact Z.1⟩,⟨by (with_reducible repeat (first|refine blk_drewN ?_ _|refine blk_drew ?_|refine blk_alloc ?_ _));exact B.1⟩,⟨by repeat (first|(with_reducible first|exact L.1|apply below_alloc|apply pw_below_drewN|apply below_drew1|refine below_set ?_ I.1)|exact L.1)⟩⟩);· rw [if_neg c45] at H;exact absurd H (by simp));· rw [if_neg c44] at H;exact absurd H (by simp)
         · rw [if_neg c32] at H;have c32b0:(g1 == 0)=false:=beq_eq_false_iff_ne.mpr c32;have c32b1:(g1 != 0)=true:=bne_iff_ne.mpr c32;(first|rw [c32b0]|(simp only [i64_w,i32_w];rw [c32b0])|skip);by_cases c47:e1=0;(· rw [if_pos c47] at H;have c47b0:(e1 == 0)=true:=beq_iff_eq.mpr c47;have c47b1:(e1 != 0)=false:=bne_eq_false_iff_eq.mpr c47;clear c47;by_cases c48:e2=g1;(· rw [if_pos c48] at H;have c48b0:(e2 == g1)=true:=beq_iff_eq.mpr c48;have c48b1:(e2 != g1)=false:=bne_eq_false_iff_eq.mpr c48;clear c48;have H':=mk0 H;clear H;go_wp2;go_meet;case rel=>exact ⟨_,H',⟨by have:=e7.1;have:=d5.1;have:=e0.1;first|omega|exact Nat.le_refl _⟩,⟨by (with_reducible repeat (first|apply Kd.N_alloc|apply Kd.N_drewN|apply Kd.N_drew));exact F.1⟩,⟨by (with_reducible repeat (first|apply Kd.R_alloc|apply Kd.R_drewN|apply Kd.R_drew));exact Z.1⟩,⟨by (with_reducible repeat (first|refine blk_drewN ?_ _|refine blk_drew ?_|refine blk_alloc ?_ _));exact B.1⟩,⟨by repeat (first|(with_reducible first|exact L.1|apply below_alloc|apply pw_below_drewN|apply below_drew1|refine below_set ?_ I.1)|exact L.1)⟩⟩);· rw [if_neg c48] at H;exact absurd H (by simp));· rw [if_neg c47] at H;exact absurd H (by simp)
        case rest =>
         (clear B6;try clear c1);(try clear p1);(try clear q1);(try clear hx1);(try clear c2);(try clear p2);(try clear c3);(try clear c4);(try clear p6);(try clear c10);(try clear p10);(try clear q10);(try clear hx10);(try clear c14);(try clear c14b0);(try clear c14b1);(try clear c15);(try clear s2);(try clear c17);(try clear c19);(try clear c22);(try clear c24);(try clear c26);(try clear c26b0);(try clear c26b1);(try clear s5);(try clear c32);(try clear c32b0);(try clear c32b1);(try clear c35);(try clear c36);(try clear c36b0);(try clear c37);(try clear c37b0);(try clear x7);(try clear c44);(try clear c44b0);(try clear c44b1);(try clear c45);(try clear c45b0);(try clear c45b1);(try clear c46);(try clear c47);(try clear c47b0);(try clear c47b1);(try clear c48);(try clear c48b0);(try clear c48b1);(try clear g3);(try clear g4);(try clear g5);(try clear g6);(try clear g7);(try clear h3);(try clear h4);(try clear h5);(try clear h6);(try clear h7);(try clear i3);(try clear i4);(try clear i5);(try clear i6);(try clear i7);(try clear p9);(try clear q0);(try clear q2);(try clear q3);(try clear q4);(try clear l7);(try clear l8);(try clear l9);(try clear m0);(try clear m1);(try clear m7);(try clear m8);(try clear m9);(try clear n0);(try clear n1);(try clear g8);(try clear g9);(try clear h0);(try clear h1);(try clear h2);(try clear h8);(try clear h9);(try clear i0);(try clear i1);(try clear i2);(try clear i8);(try clear i9);(try clear j3);(try clear j7);(try clear j8);(try clear q5);(try clear q6);(try clear q7);(try clear q8);(try clear q9);(try clear m2);(try clear m3);(try clear m4);(try clear m5);(try clear m6);(try clear n2);(try clear n3);(try clear n4);(try clear n5);(try clear n6);(try clear f3);(try clear e5);(try clear p2);try clear e6
         obtain ⟨kq,HA,n8,F,Z,B,L⟩:=hcut;cases kq with
         | zero=>exact absurd HA.1 (by simp [bellpulllaw05_CountCounts.j4])
         | succ kj30 =>
          have H:=HA.1;clear HA;simp only [bellpulllaw05_CountCounts.j4] at H;have B9:=mk0 H;clear H;go_upto_region 21 with (fail);go_cut [98] (fun T3 wc=>∃ (kq:Nat) (v1:Bool),T3=.bool v1∧Aside0 (bellpulllaw05_CountCounts.j5 kq D J a0 a6 v1=some r)∧Aside0 (kq ≤ kj30)∧Aside0 (Kd.N k60 60 wc w.heap.size (fun k_=>some k_ ≠ (d3:Value).ownBlock∧k_ ≠ G) (.slice o1 D.length n7) D)∧Aside0 (Kd.R (Kd.int .i64) 3 wc w.heap.size (fun _=>True) d3 a0)∧Aside0 (wc.heap[G]?=some (.cells #[.int .i64 M,.int .i64 O,(.slice b1 Q.length b2),(.slice b3 T.length b4),(.slice b5 U.length b6)] 25 (0,0)))∧Aside0 (Below w.heap.size w wc));case first =>have H:=B9.1;clear B9;by_cases c50:J=0;(· rw [if_pos c50] at H;have c50b0:(J == 0)=true:=beq_iff_eq.mpr c50;have c50b1:(J != 0)=false:=bne_eq_false_iff_eq.mpr c50;clear c50;(first|rw [c50b0]|(simp only [i64_w,i32_w];rw [c50b0])|skip);have H':=mk0 H;clear H;go_wp2;go_meet;case rel=>exact ⟨_,(((D.length:Int) == 0)),(by first|rfl|(simp;done)|(simp [*];done)),H',⟨by have:=e7.1;have:=d5.1;have:=e0.1;have:=n8.1;first|omega|exact Nat.le_refl _⟩,⟨by (with_reducible repeat (first|apply Kd.N_alloc|apply Kd.N_drewN|apply Kd.N_drew));exact F.1⟩,⟨by (with_reducible repeat (first|apply Kd.R_alloc|apply Kd.R_drewN|apply Kd.R_drew));exact Z.1⟩,⟨by (with_reducible repeat (first|refine blk_drewN ?_ _|refine blk_drew ?_|refine blk_alloc ?_ _));exact B.1⟩,⟨by repeat (first|(with_reducible first|exact L.1|apply below_alloc|apply pw_below_drewN|apply below_drew1|refine below_set ?_ I.1)|exact L.1)⟩⟩);· rw [if_neg c50] at H;have c50b0:(J == 0)=false:=beq_eq_false_iff_ne.mpr c50;have c50b1:(J != 0)=true:=bne_iff_ne.mpr c50;(first|rw [c50b0]|(simp only [i64_w,i32_w];rw [c50b0])|skip);have H':=mk0 H;clear H;go_wp2;go_meet;case rel=>exact ⟨_,(false),(by first|rfl|(simp;done)|(simp [*];done)),H',⟨by have:=e7.1;have:=d5.1;have:=e0.1;have:=n8.1;first|omega|exact Nat.le_refl _⟩,⟨by (with_reducible repeat (first|apply Kd.N_alloc|apply Kd.N_drewN|apply Kd.N_drew));exact F.1⟩,⟨by (with_reducible repeat (first|apply Kd.R_alloc|apply Kd.R_drewN|apply Kd.R_drew));exact Z.1⟩,⟨by (with_reducible repeat (first|refine blk_drewN ?_ _|refine blk_drew ?_|refine blk_alloc ?_ _));exact B.1⟩,⟨by repeat (first|(with_reducible first|exact L.1|apply below_alloc|apply pw_below_drewN|apply below_drew1|refine below_set ?_ I.1)|exact L.1)⟩⟩
          case rest =>
           (clear B9;try clear c1);(try clear p1);(try clear q1);(try clear hx1);(try clear c2);(try clear p2);(try clear c3);(try clear c4);(try clear c5);(try clear p6);(try clear c10);(try clear p10);(try clear q10);(try clear hx10);(try clear c14);(try clear c14b0);(try clear c14b1);(try clear c15);(try clear s2);(try clear c17);(try clear c19);(try clear c22);(try clear c24);(try clear c26);(try clear c26b0);(try clear c26b1);(try clear s5);(try clear c32);(try clear c32b0);(try clear c32b1);(try clear c35);(try clear c36);(try clear c36b0);(try clear c37);(try clear c37b0);(try clear x7);(try clear c44);(try clear c44b0);(try clear c44b1);(try clear c45);(try clear c45b0);(try clear c45b1);(try clear c46);(try clear c47);(try clear c47b0);(try clear c47b1);(try clear c48);(try clear c48b0);(try clear c48b1);(try clear c50);(try clear c50b0);(try clear c50b1);(try clear g3);(try clear g4);(try clear g5);(try clear g6);(try clear g7);(try clear h3);(try clear h4);(try clear h5);(try clear h6);(try clear h7);(try clear i3);(try clear i4);(try clear i5);(try clear i6);(try clear i7);(try clear p9);(try clear q0);(try clear q2);(try clear q3);(try clear q4);(try clear l7);(try clear l8);(try clear l9);(try clear m0);(try clear m1);(try clear m7);(try clear m8);(try clear m9);(try clear n0);(try clear n1);(try clear g8);(try clear g9);(try clear h0);(try clear h1);(try clear h2);(try clear h8);(try clear h9);(try clear i0);(try clear i1);(try clear i2);(try clear i8);(try clear i9);(try clear j3);(try clear j7);(try clear j8);(try clear q5);(try clear q6);(try clear q7);(try clear q8);(try clear q9);(try clear m2);(try clear m3);(try clear m4);(try clear m5);(try clear m6);(try clear n2);(try clear n3);(try clear n4);(try clear n5);(try clear n6);(try clear f3);(try clear p1);(try clear p10);(try clear e5);(try clear p2);(try clear p6);(try clear q1);(try clear q10);try clear e6
           obtain ⟨kq,v1,rfl,HA,p8,F,Z,B,L⟩:=hcut;cases kq with
           | zero=>exact absurd HA.1 (by simp [bellpulllaw05_CountCounts.j5])
           | succ kj48 =>
            have H:=HA.1;clear HA;simp only [bellpulllaw05_CountCounts.j5] at H;have C0:=mk0 H;clear H;go_upto_if 98 with (fail);go_cut [4] (fun v4 wc=>∃ (kq:Nat) (g2:Int),v4=.int .i64 g2∧Aside0 (bellpulllaw05_CountCounts.j6 kq D g2 a0 a6=some r)∧Aside0 (kq ≤ kj48)∧Aside0 (Kd.N k60 60 wc w.heap.size (fun k_=>some k_ ≠ (d3:Value).ownBlock∧k_ ≠ G) (.slice o1 D.length n7) D)∧Aside0 (Kd.R (Kd.int .i64) 3 wc w.heap.size (fun _=>True) d3 a0)∧Aside0 (wc.heap[G]?=some (.cells #[.int .i64 M,.int .i64 O,(.slice b1 Q.length b2),(.slice b3 T.length b4),(.slice b5 U.length b6)] 25 (0,0)))∧Aside0 (Below w.heap.size w wc));case first =>have H:=C0.1;clear C0;by_cases A5:v1=true;(· (subst A5;have H1:(bellpulllaw05_CountCounts.j6 kj48 D 5 a0 a6)=some r:=by rw [if_pos rfl] at H;exact H);clear H;have H:=H1;clear H1;have H':=mk0 H;clear H;go_wp2;go_meet;case rel=>exact ⟨_,(5),(by first|rfl|(simp;done)|(simp [*];done)),H',⟨by have:=e7.1;have:=d5.1;have:=e0.1;have:=n8.1;have:=p8.1;first|omega|exact Nat.le_refl _⟩,⟨by (with_reducible repeat (first|apply Kd.N_alloc|apply Kd.N_drewN|apply Kd.N_drew));exact F.1⟩,⟨by (with_reducible repeat (first|apply Kd.R_alloc|apply Kd.R_drewN|apply Kd.R_drew));exact Z.1⟩,⟨by (with_reducible repeat (first|refine blk_drewN ?_ _|refine blk_drew ?_|refine blk_alloc ?_ _));exact B.1⟩,⟨by repeat (first|(with_reducible first|exact L.1|apply below_alloc|apply pw_below_drewN|apply below_drew1|refine below_set ?_ I.1)|exact L.1)⟩⟩);· (replace A5:=Bool.eq_false_iff.mpr A5;subst A5;have H1:(bellpulllaw05_CountCounts.j6 kj48 D J a0 a6)=some r:=by rw [if_neg (show ¬ (false=true) by decide)] at H;exact H);clear H;have H:=H1;clear H1;have H':=mk0 H;clear H;go_wp2;go_meet;case rel=>exact ⟨_,(J),(by first|rfl|(simp;done)|(simp [*];done)),H',⟨by have:=e7.1;have:=d5.1;have:=e0.1;have:=n8.1;have:=p8.1;first|omega|exact Nat.le_refl _⟩,⟨by (with_reducible repeat (first|apply Kd.N_alloc|apply Kd.N_drewN|apply Kd.N_drew));exact F.1⟩,⟨by (with_reducible repeat (first|apply Kd.R_alloc|apply Kd.R_drewN|apply Kd.R_drew));exact Z.1⟩,⟨by (with_reducible repeat (first|refine blk_drewN ?_ _|refine blk_drew ?_|refine blk_alloc ?_ _));exact B.1⟩,⟨by repeat (first|(with_reducible first|exact L.1|apply below_alloc|apply pw_below_drewN|apply below_drew1|refine below_set ?_ I.1)|exact L.1)⟩⟩
            case rest =>
             (clear C0;try clear c1);(try clear p1);(try clear q1);(try clear hx1);(try clear c2);(try clear p2);(try clear c3);(try clear c4);(try clear c5);(try clear p6);(try clear c10);(try clear p10);(try clear q10);(try clear hx10);(try clear c14);(try clear c14b0);(try clear c14b1);(try clear c15);(try clear s2);(try clear c17);(try clear c19);(try clear c22);(try clear c24);(try clear c26);(try clear c26b0);(try clear c26b1);(try clear s5);(try clear c32);(try clear c32b0);(try clear c32b1);(try clear c35);(try clear c36);(try clear c36b0);(try clear c37);(try clear c37b0);(try clear x7);(try clear c44);(try clear c44b0);(try clear c44b1);(try clear c45);(try clear c45b0);(try clear c45b1);(try clear c46);(try clear c47);(try clear c47b0);(try clear c47b1);(try clear c48);(try clear c48b0);(try clear c48b1);(try clear c50);(try clear c50b0);(try clear c50b1);(try clear A5);(try clear g3);(try clear g4);(try clear g5);(try clear g6);(try clear g7);(try clear h3);(try clear h4);(try clear h5);(try clear h6);(try clear h7);(try clear i3);(try clear i4);(try clear i5);(try clear i6);(try clear i7);(try clear p9);(try clear q0);(try clear q2);(try clear q3);(try clear q4);(try clear l7);(try clear l8);(try clear l9);(try clear m0);(try clear m1);(try clear m7);(try clear m8);(try clear m9);(try clear n0);(try clear n1);(try clear g8);(try clear g9);(try clear h0);(try clear h1);(try clear h2);(try clear h8);(try clear h9);(try clear i0);(try clear i1);(try clear i2);(try clear i8);(try clear i9);(try clear j3);(try clear j7);(try clear j8);(try clear q5);(try clear q6);(try clear q7);(try clear q8);(try clear q9);(try clear m2);(try clear m3);(try clear m4);(try clear m5);(try clear m6);(try clear n2);(try clear n3);(try clear n4);(try clear n5);(try clear n6);(try clear f3);(try clear p1);(try clear p10);(try clear e5);(try clear p2);(try clear p6);(try clear q1);(try clear q10);try clear e6
             obtain ⟨kq,g2,rfl,HA,s3,F,Z,B,L⟩:=hcut;cases kq with
             | zero=>exact absurd HA.1 (by simp [bellpulllaw05_CountCounts.j6])
             | succ kj50 =>
              have H:=HA.1;clear HA;simp only [bellpulllaw05_CountCounts.j6] at H;by_cases c53:g2=0
              ·
               rw [if_pos c53] at H;have c53b0:(g2 == 0)=true:=beq_iff_eq.mpr c53;have c53b1:(g2 != 0)=false:=bne_eq_false_iff_eq.mpr c53;clear c53;by_cases c54:0 < (D.length:Int)
               ·
                rw [if_pos c54] at H;have c54b0:decide (0 < (D.length:Int))=true:=decide_eq_true c54;have c54b1:decide (0 < D.length)=true:=decide_eq_true (by omega);clear c54;have H':=mk0 H;clear H;have v2:0 ≤ (0:Int):=(by omega);have v3:0 < (D.length:Int):=of_decide_eq_true (by first|(with_reducible assumption)|assumption);obtain ⟨e8,E4,Q2,E5,Q3,I3,o5,o6,y5,y6,y7,y8⟩:=at_T60 (Kd.N_reads' F.1).2.2 0 v2 v3;cases I3;obtain ⟨T4,E6,E7,x0⟩:=Kd.N_get F.1 z60 0 v2 (by first|exact v3|exact of_decide_eq_true (by first|(with_reducible assumption)|assumption)|(have e_:=(Kd.N_reads' F.1).1;omega));obtain ⟨J8,J9,L0,L1,rfl,s7,s8,s9,t0⟩:=k60_openF E7;have r1:=x0 0 _ rfl;rw [Nat.add_zero] at r1;replace r1:=Option.some.inj (r1.symm.trans o5);injection r1 with hva_ hvn_ hvc_;rw [hva_] at s8;rw [hvc_] at s7;have C1:=mk0 (show Kd.V (Kd.int .i64) 3 _ w.heap.size _ _ ((rd_T60 D 0).f0) from Kd.V_mk s7 s8);clear hva_ hvn_ hvc_ s8 s7;have r2:=x0 1 _ rfl;rw [add_field _ _ 1 (by omega)] at r2;replace r2:=Option.some.inj (r2.symm.trans o6);injection r2 with hva_ hvn_ hvc_;rw [hva_] at t0;rw [hvc_] at s9;have L2:=mk0 (show Kd.V (Kd.slice 3 (Kd.int .i64)) 23 _ w.heap.size _ _ ((rd_T60 D 0).f1) from Kd.V_mk s9 t0);clear hva_ hvn_ hvc_ t0 s9;clear x0 E6;have T5:(0 < D.length)=True:=eq_true (by omega);(try rw [show ((0:Int)).toNat=0 from rfl] at o5);(try rw [show 0 * 2=0 from rfl] at o5);(try rw [Addr.add_zero'] at o5);(try rw [show ((0:Int)).toNat=0 from rfl] at o6);(try rw [show 0 * 2=0 from rfl] at o6);(try rw [Addr.add_zero'] at o6);have a7:=mk0 y6;have L3:=mk0 y5;clear y6 y5;have a8:=mk0 y8;have L4:=mk0 y7;clear y8 y7;replace v2:=eq_true v2;replace v3:=eq_true v3;go_wp2;go_loopg [13,14] kj50 (fun kq T6 T7 w'=>∃ (d2:List Int) (E:Int),T7=.int .i64 E∧Aside0 (bellpulllaw05_CountCounts.l1 kq D a0 a6 d2 E=some r)∧Aside0 (kq ≤ kj50)∧Aside0 (Kd.N k60 60 w' w.heap.size (fun k_=>some k_ ≠ (d3:Value).ownBlock∧k_ ≠ G) (.slice (some e8) D.length n7) D)∧Aside0 (Kd.R (Kd.int .i64) 3 w' w.heap.size (fun _=>True) d3 a0)∧Aside0 (Kd.V (Kd.int .i64) 3 w' w.heap.size (fun k_=>some k_ ≠ ((.slice (some e8) D.length n7):Value).ownBlock∧some k_ ≠ (d3:Value).ownBlock∧k_ ≠ G) T6 d2)∧Aside0 (w'.heap[G]?=some (.cells #[.int .i64 M,.int .i64 O,(.slice b1 Q.length b2),(.slice b3 T.length b4),(.slice b5 U.length b6)] 25 (0,0)))∧Aside0 (Kd.C (Kd.int .i64) w' E4 ((rd_T60 D 0).f0).length ((rd_T60 D 0).f0))∧Aside0 (Kd.C (Kd.slice 3 (Kd.int .i64)) w' E5 ((rd_T60 D 0).f1).length ((rd_T60 D 0).f1))∧Aside0 (Below w.heap.size w w'));case atStart=>exact ⟨((rd_T60 D 0).f0),(1),(by first|rfl|(simp;done)|(simp [*];done)),H',⟨Nat.le_refl _⟩,⟨by (with_reducible repeat (first|apply Kd.N_alloc|apply Kd.N_drewN|apply Kd.N_drew));exact F.1⟩,⟨by (with_reducible repeat (first|apply Kd.R_alloc|apply Kd.R_drewN|apply Kd.R_drew));exact Z.1⟩,⟨by (with_reducible repeat (first|apply Kd.V_alloc|apply Kd.V_drewN|apply Kd.V_drew));exact Kd.V_mono C1.1 (fun _ hk=>⟨hk.2,⟨hk.1.1,hk.1.2⟩⟩)⟩,⟨by (with_reducible repeat (first|refine blk_drewN ?_ _|refine blk_drew ?_|refine blk_alloc ?_ _));exact B.1⟩,⟨by repeat (first|(with_reducible exact a7.1)|(with_reducible refine Kd.C_alloc ?_ _)|(with_reducible refine Kd.C_drewN ?_ _)|(with_reducible refine Kd.C_drew ?_)|exact a7.1)⟩,⟨by repeat (first|(with_reducible exact a8.1)|(with_reducible refine Kd.C_alloc ?_ _)|(with_reducible refine Kd.C_drewN ?_ _)|(with_reducible refine Kd.C_drew ?_)|exact a8.1)⟩,⟨by repeat (first|(with_reducible first|exact L.1|apply below_alloc|apply pw_below_drewN|apply below_drew1|refine below_set ?_ I.1)|exact L.1)⟩⟩
                case round =>
                 (clear H';try clear c1);(try clear p1);(try clear q1);(try clear hx1);(try clear qi1);(try clear c2);(try clear p2);(try clear c3);(try clear c4);(try clear c5);(try clear p6);(try clear c10);(try clear p10);(try clear q10);(try clear hx10);(try clear qi10);(try clear c14);(try clear c14b0);(try clear c14b1);(try clear c15);(try clear s2);(try clear c17);(try clear c19);(try clear c22);(try clear c24);(try clear c26);(try clear c26b0);(try clear c26b1);(try clear s5);(try clear c32);(try clear c32b0);(try clear c32b1);(try clear c35);(try clear c36);(try clear c36b0);(try clear c37);(try clear c37b0);(try clear x7);(try clear c44);(try clear c44b0);(try clear c44b1);(try clear c45);(try clear c45b0);(try clear c45b1);(try clear c46);(try clear c47);(try clear c47b0);(try clear c47b1);(try clear c48);(try clear c48b0);(try clear c48b1);(try clear c50);(try clear c50b0);(try clear c50b1);(try clear A5);(try clear c53);(try clear c53b0);(try clear c53b1);(try clear c54);(try clear c54b0);(try clear c54b1);(try clear g3);(try clear g4);(try clear g5);(try clear g6);(try clear g7);(try clear h3);(try clear h4);(try clear h5);(try clear h6);(try clear h7);(try clear i3);(try clear i4);(try clear i5);(try clear i6);(try clear i7);(try clear p9);(try clear q0);(try clear q2);(try clear q3);(try clear q4);(try clear l7);(try clear l8);(try clear l9);(try clear m0);(try clear m1);(try clear m7);(try clear m8);(try clear m9);(try clear n0);(try clear n1);(try clear g8);(try clear g9);(try clear h0);(try clear h1);(try clear h2);(try clear h8);(try clear h9);(try clear i0);(try clear i1);(try clear i2);(try clear i8);(try clear i9);(try clear j3);(try clear j7);(try clear j8);(try clear q5);(try clear q6);(try clear q7);(try clear q8);(try clear q9);(try clear m2);(try clear m3);(try clear m4);(try clear m5);(try clear m6);(try clear n2);(try clear n3);(try clear n4);(try clear n5);(try clear n6);(try clear f3);(try clear o5);(try clear o6);(try clear p1);(try clear p10);(try clear e5);(try clear v2);(try clear p2);(try clear p6);(try clear q1);(try clear q10);(try clear e6);try clear v3
                 obtain ⟨d2,E,rfl,HA,x8,F,Z,a9,B,a7,a8,L⟩:=hrel;cases gk with
                 | zero=>exact absurd HA.1 (by simp [bellpulllaw05_CountCounts.l1])
                 | succ k7 =>have H:=HA.1;clear HA;simp only [bellpulllaw05_CountCounts.l1] at H;by_cases c55:E < (D.length:Int);(· rw [if_pos c55] at H;have c55b0:decide (E < (D.length:Int))=true:=decide_eq_true c55;clear c55;by_cases c56:0 ≤ E;(· rw [if_pos c56] at H;have c56b0:decide (0 ≤ E)=true:=decide_eq_true c56;clear c56;replace H:=Option.bind_eq_some_iff.mp H;obtain ⟨e9,G9,H⟩:=H;(try dsimp only at H);have E0:=mk0 G9;clear G9;replace H:=Option.bind_eq_some_iff.mp H;obtain ⟨f2,H0,H⟩:=H;(try dsimp only at H);have E1:=mk0 H0;clear H0;by_cases c59:e9 < f2;(· rw [if_pos c59] at H;have c59b0:decide (e9 < f2)=true:=decide_eq_true c59;clear c59;have H':=mk0 H;clear H;have b7:0 ≤ (E:Int):=of_decide_eq_true (by first|(with_reducible assumption)|assumption);have b8:E < (D.length:Int):=of_decide_eq_true (by first|(with_reducible assumption)|assumption);obtain ⟨o7,j9,l2,x1,x2,r3,c0,c6,c7,c8,c9,d0⟩:=at_T60 (Kd.N_reads' F.1).2.2 E b7 b8;obtain rfl:e8=o7:=(by injection r3);obtain ⟨y9,l3,l4,b0⟩:=Kd.N_get F.1 z60 E b7 (by first|exact b8|exact of_decide_eq_true (by first|(with_reducible assumption)|assumption)|(have e_:=(Kd.N_reads' F.1).1;omega));obtain ⟨t1,t2,t3,t4,rfl,a2,a3,a4,a5⟩:=k60_openF l4;have X:=b0 0 _ rfl;rw [Nat.add_zero] at X;replace X:=Option.some.inj (X.symm.trans c0);injection X with hva_ hvn_ hvc_;rw [hva_] at a3;rw [hvc_] at a2;have t5:=mk0 (show Kd.V (Kd.int .i64) 3 _ w.heap.size _ _ ((rd_T60 D E).f0) from Kd.V_mk a2 a3);clear hva_ hvn_ hvc_ a3 a2;have Y:=b0 1 _ rfl;rw [add_field _ _ 1 (by omega)] at Y;replace Y:=Option.some.inj (Y.symm.trans c6);injection Y with hva_ hvn_ hvc_;rw [hva_] at a5;rw [hvc_] at a4;have t6:=mk0 (show Kd.V (Kd.slice 3 (Kd.int .i64)) 23 _ w.heap.size _ _ ((rd_T60 D E).f1) from Kd.V_mk a4 a5);clear hva_ hvn_ hvc_ a5 a4;clear b0 l3;have d1:=mk0 c8;have f6:=mk0 c7;clear c8 c7;have t7:=mk0 d0;have t8:=mk0 c9;clear d0 c9;replace b7:=eq_true b7;replace b8:=eq_true b8;go_wp2_with (first|((with_reducible refine gate_callee (f:=45) rfl ?_);refine goesL_ (some 127) rfl rfl Try.func45 (by kernel_rfl) rfl #[.slice j9 ((rd_T60 D E).f0).length l2] rfl (by (try simp only [m0_,m1_,m2_]);first|done|rfl|(simp only [l0_,l1_];rfl)) ?_;(with_reducible refine (bellpullref05_Total.calls k7 _ _ ((rd_T60 D E).f0) e9 _ ?side1 ?side2 E0.1).mono ?_);(case side1=>repeat (first|exact (by repeat (first|(with_reducible exact d1.1)|(with_reducible refine Kd.C_alloc ?_ _)|(with_reducible refine Kd.C_drewN ?_ _)|(with_reducible refine Kd.C_drew ?_)|exact d1.1))|(with_reducible refine Kd.C_alloc ?_ _)|(with_reducible refine Kd.C_drewN ?_ _)|(with_reducible refine Kd.C_drew ?_)));(case side2=>exact f6.1);rintro e w' ⟨rfl,⟨nd,rfl⟩⟩;refine ⟨_,rfl,?_⟩;obtain ⟨L5,L6,L7⟩:=Kd.V_slice a9.1;subst L7)|((with_reducible refine gate_callee (f:=45) rfl ?_);refine goesL_ (some 129) rfl rfl Try.func45 (by kernel_rfl) rfl #[.slice L5 d2.length L6] rfl (by (try simp only [m0_,m1_,m2_]);first|done|rfl|(simp only [l0_,l1_];rfl)) ?_;(with_reducible refine (bellpullref05_Total.calls k7 _ _ d2 f2 _ ?side1 ?side2 E1.1).mono ?_);(case side1=>repeat (first|exact (Kd.V_reads' a9.1).2.2|(with_reducible refine Kd.C_alloc ?_ _)|(with_reducible refine Kd.C_drewN ?_ _)|(with_reducible refine Kd.C_drew ?_)));(case side2=>exact (Kd.V_reads' a9.1).2.1);rintro e w' ⟨rfl,⟨nd,rfl⟩⟩;refine ⟨_,rfl,?_⟩;have y1:0 ≤ (E:Int):=of_decide_eq_true (by first|(with_reducible assumption)|assumption);have y2:E < (D.length:Int):=of_decide_eq_true (by first|(with_reducible assumption)|assumption);obtain ⟨H2,Q4,Q5,Q6,Q7,I4,z0,z1,z2,z3,z4,z5⟩:=at_T60 (Kd.N_reads' F.1).2.2 E y1 y2;obtain rfl:e8=H2:=(by injection I4);obtain ⟨T8,E8,E9,x3⟩:=Kd.N_get F.1 z60 E y1 (by first|exact y2|exact of_decide_eq_true (by first|(with_reducible assumption)|assumption)|(have e_:=(Kd.N_reads' F.1).1;omega));obtain ⟨L8,L9,M0,M1,rfl,t9,u0,u1,u2⟩:=k60_openF E9;have r4:=x3 0 _ rfl;rw [Nat.add_zero] at r4;replace r4:=Option.some.inj (r4.symm.trans z0);injection r4 with hva_ hvn_ hvc_;rw [hva_] at u0;rw [hvc_] at t9;have C2:=mk0 (show Kd.V (Kd.int .i64) 3 _ w.heap.size _ _ ((rd_T60 D E).f0) from Kd.V_mk t9 u0);clear hva_ hvn_ hvc_ u0 t9;have r5:=x3 1 _ rfl;rw [add_field _ _ 1 (by omega)] at r5;replace r5:=Option.some.inj (r5.symm.trans z1);injection r5 with hva_ hvn_ hvc_;rw [hva_] at u2;rw [hvc_] at u1;have M2:=mk0 (show Kd.V (Kd.slice 3 (Kd.int .i64)) 23 _ w.heap.size _ _ ((rd_T60 D E).f1) from Kd.V_mk u1 u2);clear hva_ hvn_ hvc_ u2 u1;clear x3 E8;have M3:=mk0 z3;have M4:=mk0 z2;clear z3 z2;have M5:=mk0 z5;have M6:=mk0 z4;clear z5 z4;replace y1:=eq_true y1;replace y2:=eq_true y2;have ea_:=Option.some.inj (c0.symm.trans z0);injection ea_ with ea_ en_ ec_;subst ea_;subst ec_;clear en_;have ea_:=Option.some.inj (c6.symm.trans z1);injection ea_ with ea_ en_ ec_;subst ea_;subst ec_;clear en_));go_roundg k7;(case measure=>have:=e7.1;have:=d5.1;have:=e0.1;have:=n8.1;have:=p8.1;have:=s3.1;have:=x8.1;omega);case rel=>exact ⟨((rd_T60 D E).f0),(wrap64 (E + 1)),(by first|rfl|(simp;done)|(simp [*];done)),H',⟨by have:=e7.1;have:=d5.1;have:=e0.1;have:=n8.1;have:=p8.1;have:=s3.1;have:=x8.1;omega⟩,⟨by (with_reducible repeat (first|apply Kd.N_alloc|apply Kd.N_drewN|apply Kd.N_drew));exact F.1⟩,⟨by (with_reducible repeat (first|apply Kd.R_alloc|apply Kd.R_drewN|apply Kd.R_drew));exact Z.1⟩,⟨by (with_reducible repeat (first|apply Kd.V_alloc|apply Kd.V_drewN|apply Kd.V_drew));exact Kd.V_mono C2.1 (fun _ hk=>⟨hk.2,⟨hk.1.1,hk.1.2⟩⟩)⟩,⟨by (with_reducible repeat (first|refine blk_drewN ?_ _|refine blk_drew ?_|refine blk_alloc ?_ _));exact B.1⟩,⟨by repeat (first|(with_reducible exact a7.1)|(with_reducible refine Kd.C_alloc ?_ _)|(with_reducible refine Kd.C_drewN ?_ _)|(with_reducible refine Kd.C_drew ?_)|exact a7.1)⟩,⟨by repeat (first|(with_reducible exact a8.1)|(with_reducible refine Kd.C_alloc ?_ _)|(with_reducible refine Kd.C_drewN ?_ _)|(with_reducible refine Kd.C_drew ?_)|exact a8.1)⟩,⟨by repeat (first|(with_reducible first|exact L.1|apply below_alloc|apply pw_below_drewN|apply below_drew1|refine below_set ?_ I.1)|exact L.1)⟩⟩);· rw [if_neg c59] at H;have c59b0:decide (e9 < f2)=false:=decide_eq_false c59;clear c59;by_cases c61:e9=f2;(· rw [if_pos c61] at H;have c61b0:(e9 == f2)=true:=beq_iff_eq.mpr c61;have c61b1:(e9 != f2)=false:=bne_eq_false_iff_eq.mpr c61;clear c61;replace H:=Option.bind_eq_some_iff.mp H;obtain ⟨I5,H3,H⟩:=H;(try dsimp only at H);have J1:=mk0 H3;clear H3;by_cases E2:I5=true;(· (subst E2;have H1:(bellpulllaw05_CountCounts.l1 k7 D a0 a6 ((rd_T60 D E).f0) (wrap64 (E + 1)))=some r:=by rw [if_pos rfl] at H;exact H);clear H;have H:=H1;clear H1;have H':=mk0 H;clear H;have b7:0 ≤ (E:Int):=of_decide_eq_true (by first|(with_reducible assumption)|assumption);have b8:E < (D.length:Int):=of_decide_eq_true (by first|(with_reducible assumption)|assumption);obtain ⟨o7,j9,l2,x1,x2,r3,c0,c6,c7,c8,c9,d0⟩:=at_T60 (Kd.N_reads' F.1).2.2 E b7 b8;obtain rfl:e8=o7:=(by injection r3);obtain ⟨y9,l3,l4,b0⟩:=Kd.N_get F.1 z60 E b7 (by first|exact b8|exact of_decide_eq_true (by first|(with_reducible assumption)|assumption)|(have e_:=(Kd.N_reads' F.1).1;omega));obtain ⟨t1,t2,t3,t4,rfl,a2,a3,a4,a5⟩:=k60_openF l4;have X:=b0 0 _ rfl;rw [Nat.add_zero] at X;replace X:=Option.some.inj (X.symm.trans c0);injection X with hva_ hvn_ hvc_;rw [hva_] at a3;rw [hvc_] at a2;have t5:=mk0 (show Kd.V (Kd.int .i64) 3 _ w.heap.size _ _ ((rd_T60 D E).f0) from Kd.V_mk a2 a3);clear hva_ hvn_ hvc_ a3 a2;have Y:=b0 1 _ rfl;rw [add_field _ _ 1 (by omega)] at Y;replace Y:=Option.some.inj (Y.symm.trans c6);injection Y with hva_ hvn_ hvc_;rw [hva_] at a5;rw [hvc_] at a4;have t6:=mk0 (show Kd.V (Kd.slice 3 (Kd.int .i64)) 23 _ w.heap.size _ _ ((rd_T60 D E).f1) from Kd.V_mk a4 a5);clear hva_ hvn_ hvc_ a5 a4;clear b0 l3;have d1:=mk0 c8;have f6:=mk0 c7;clear c8 c7;have t7:=mk0 d0;have t8:=mk0 c9;clear d0 c9;replace b7:=eq_true b7;replace b8:=eq_true b8;go_wp2_with (first|((with_reducible refine gate_callee (f:=45) rfl ?_);refine goesL_ (some 127) rfl rfl Try.func45 (by kernel_rfl) rfl #[.slice j9 ((rd_T60 D E).f0).length l2] rfl (by (try simp only [m0_,m1_,m2_]);first|done|rfl|(simp only [l0_,l1_];rfl)) ?_;(with_reducible refine (bellpullref05_Total.calls k7 _ _ ((rd_T60 D E).f0) e9 _ ?side1 ?side2 E0.1).mono ?_);(case side1=>repeat (first|exact (by repeat (first|(with_reducible exact d1.1)|(with_reducible refine Kd.C_alloc ?_ _)|(with_reducible refine Kd.C_drewN ?_ _)|(with_reducible refine Kd.C_drew ?_)|exact d1.1))|(with_reducible refine Kd.C_alloc ?_ _)|(with_reducible refine Kd.C_drewN ?_ _)|(with_reducible refine Kd.C_drew ?_)));(case side2=>exact f6.1);rintro e w' ⟨rfl,⟨nd,rfl⟩⟩;refine ⟨_,rfl,?_⟩;obtain ⟨M7,M8,M9⟩:=Kd.V_slice a9.1;subst M9)|((with_reducible refine gate_callee (f:=45) rfl ?_);refine goesL_ (some 129) rfl rfl Try.func45 (by kernel_rfl) rfl #[.slice M7 d2.length M8] rfl (by (try simp only [m0_,m1_,m2_]);first|done|rfl|(simp only [l0_,l1_];rfl)) ?_;(with_reducible refine (bellpullref05_Total.calls k7 _ _ d2 f2 _ ?side1 ?side2 E1.1).mono ?_);(case side1=>repeat (first|exact (Kd.V_reads' a9.1).2.2|(with_reducible refine Kd.C_alloc ?_ _)|(with_reducible refine Kd.C_drewN ?_ _)|(with_reducible refine Kd.C_drew ?_)));(case side2=>exact (Kd.V_reads' a9.1).2.1);rintro e w' ⟨rfl,⟨nd,rfl⟩⟩;refine ⟨_,rfl,?_⟩;have n9:0 ≤ (E:Int):=of_decide_eq_true (by first|(with_reducible assumption)|assumption);have o0:E < (D.length:Int):=of_decide_eq_true (by first|(with_reducible assumption)|assumption);obtain ⟨z6,F0,F1,F2,F3,A9,o8,o9,p0,p3,p4,p5⟩:=at_T60 (Kd.N_reads' F.1).2.2 E n9 o0;obtain rfl:e8=z6:=(by injection A9);obtain ⟨H4,x4,x5,l5⟩:=Kd.N_get F.1 z60 E n9 (by first|exact o0|exact of_decide_eq_true (by first|(with_reducible assumption)|assumption)|(have e_:=(Kd.N_reads' F.1).1;omega));obtain ⟨C3,C4,C5,C6,rfl,f7,f8,f9,g0⟩:=k60_openF x5;have d8:=l5 0 _ rfl;rw [Nat.add_zero] at d8;replace d8:=Option.some.inj (d8.symm.trans o8);injection d8 with hva_ hvn_ hvc_;rw [hva_] at f8;rw [hvc_] at f7;have C7:=mk0 (show Kd.V (Kd.int .i64) 3 _ w.heap.size _ _ ((rd_T60 D E).f0) from Kd.V_mk f7 f8);clear hva_ hvn_ hvc_ f8 f7;have d9:=l5 1 _ rfl;rw [add_field _ _ 1 (by omega)] at d9;replace d9:=Option.some.inj (d9.symm.trans o9);injection d9 with hva_ hvn_ hvc_;rw [hva_] at g0;rw [hvc_] at f9;have C8:=mk0 (show Kd.V (Kd.slice 3 (Kd.int .i64)) 23 _ w.heap.size _ _ ((rd_T60 D E).f1) from Kd.V_mk f9 g0);clear hva_ hvn_ hvc_ g0 f9;clear l5 x4;have p7:=mk0 p3;have u3:=mk0 p0;clear p3 p0;have C9:=mk0 p5;have D0:=mk0 p4;clear p5 p4;replace n9:=eq_true n9;replace o0:=eq_true o0;have ea_:=Option.some.inj (c0.symm.trans o8);injection ea_ with ea_ en_ ec_;subst ea_;subst ec_;clear en_;have ea_:=Option.some.inj (c6.symm.trans o9);injection ea_ with ea_ en_ ec_;subst ea_;subst ec_;clear en_)|(go_at_call 47;(with_reducible refine (bellpullref01_Before.calls k7 _ _ ((rd_T60 D E).f0) _ _ d2 true _ ?side1 ?side2 ?side3 ?side4 J1.1).mono ?_);(case side1=>repeat (first|exact (by repeat (first|(with_reducible exact p7.1)|(with_reducible refine Kd.C_alloc ?_ _)|(with_reducible refine Kd.C_drewN ?_ _)|(with_reducible refine Kd.C_drew ?_)|exact p7.1))|(with_reducible refine Kd.C_alloc ?_ _)|(with_reducible refine Kd.C_drewN ?_ _)|(with_reducible refine Kd.C_drew ?_)));(case side2=>exact u3.1);(case side3=>repeat (first|exact (Kd.V_reads' a9.1).2.2|(with_reducible refine Kd.C_alloc ?_ _)|(with_reducible refine Kd.C_drewN ?_ _)|(with_reducible refine Kd.C_drew ?_)));(case side4=>exact (Kd.V_reads' a9.1).2.1);rintro e w' ⟨rfl,⟨nd,rfl⟩⟩;have y3:0 ≤ (E:Int):=of_decide_eq_true (by first|(with_reducible assumption)|assumption);have y4:E < (D.length:Int):=of_decide_eq_true (by first|(with_reducible assumption)|assumption);obtain ⟨H5,Q8,Q9,R0,R1,I6,z7,z8,z9,A0,A1,A4⟩:=at_T60 (Kd.N_reads' F.1).2.2 E y3 y4;obtain rfl:e8=H5:=(by injection I6);obtain ⟨T9,F4,F5,x6⟩:=Kd.N_get F.1 z60 E y3 (by first|exact y4|exact of_decide_eq_true (by first|(with_reducible assumption)|assumption)|(have e_:=(Kd.N_reads' F.1).1;omega));obtain ⟨N0,N1,N2,N3,rfl,u4,u5,u6,u7⟩:=k60_openF F5;have r6:=x6 0 _ rfl;rw [Nat.add_zero] at r6;replace r6:=Option.some.inj (r6.symm.trans z7);injection r6 with hva_ hvn_ hvc_;rw [hva_] at u5;rw [hvc_] at u4;have D1:=mk0 (show Kd.V (Kd.int .i64) 3 _ w.heap.size _ _ ((rd_T60 D E).f0) from Kd.V_mk u4 u5);clear hva_ hvn_ hvc_ u5 u4;have r7:=x6 1 _ rfl;rw [add_field _ _ 1 (by omega)] at r7;replace r7:=Option.some.inj (r7.symm.trans z8);injection r7 with hva_ hvn_ hvc_;rw [hva_] at u7;rw [hvc_] at u6;have N4:=mk0 (show Kd.V (Kd.slice 3 (Kd.int .i64)) 23 _ w.heap.size _ _ ((rd_T60 D E).f1) from Kd.V_mk u6 u7);clear hva_ hvn_ hvc_ u7 u6;clear x6 F4;have N5:=mk0 A0;have N6:=mk0 z9;clear A0 z9;have N7:=mk0 A4;have N8:=mk0 A1;clear A4 A1;replace y3:=eq_true y3;replace y4:=eq_true y4;have ea_:=Option.some.inj (c0.symm.trans z7);injection ea_ with ea_ en_ ec_;subst ea_;subst ec_;clear en_;have ea_:=Option.some.inj (c6.symm.trans z8);injection ea_ with ea_ en_ ec_;subst ea_;subst ec_;clear en_));go_roundg k7;(case measure=>have:=e7.1;have:=d5.1;have:=e0.1;have:=n8.1;have:=p8.1;have:=s3.1;have:=x8.1;omega);case rel=>exact ⟨((rd_T60 D E).f0),(wrap64 (E + 1)),(by first|rfl|(simp;done)|(simp [*];done)),H',⟨by have:=e7.1;have:=d5.1;have:=e0.1;have:=n8.1;have:=p8.1;have:=s3.1;have:=x8.1;omega⟩,⟨by (with_reducible repeat (first|apply Kd.N_alloc|apply Kd.N_drewN|apply Kd.N_drew));exact F.1⟩,⟨by (with_reducible repeat (first|apply Kd.R_alloc|apply Kd.R_drewN|apply Kd.R_drew));exact Z.1⟩,⟨by (with_reducible repeat (first|apply Kd.V_alloc|apply Kd.V_drewN|apply Kd.V_drew));exact Kd.V_mono D1.1 (fun _ hk=>⟨hk.2,⟨hk.1.1,hk.1.2⟩⟩)⟩,⟨by (with_reducible repeat (first|refine blk_drewN ?_ _|refine blk_drew ?_|refine blk_alloc ?_ _));exact B.1⟩,⟨by repeat (first|(with_reducible exact a7.1)|(with_reducible refine Kd.C_alloc ?_ _)|(with_reducible refine Kd.C_drewN ?_ _)|(with_reducible refine Kd.C_drew ?_)|exact a7.1)⟩,⟨by repeat (first|(with_reducible exact a8.1)|(with_reducible refine Kd.C_alloc ?_ _)|(with_reducible refine Kd.C_drewN ?_ _)|(with_reducible refine Kd.C_drew ?_)|exact a8.1)⟩,⟨by repeat (first|(with_reducible first|exact L.1|apply below_alloc|apply pw_below_drewN|apply below_drew1|refine below_set ?_ I.1)|exact L.1)⟩⟩);· (replace E2:=Bool.eq_false_iff.mpr E2;subst E2;have H1:(bellpulllaw05_CountCounts.l1 k7 D a0 a6 d2 (wrap64 (E + 1)))=some r:=by rw [if_neg (show ¬ (false=true) by decide)] at H;exact H);clear H;have H:=H1;clear H1;have H':=mk0 H;clear H;have b7:0 ≤ (E:Int):=of_decide_eq_true (by first|(with_reducible assumption)|assumption);have b8:E < (D.length:Int):=of_decide_eq_true (by first|(with_reducible assumption)|assumption);obtain ⟨o7,j9,l2,x1,x2,r3,c0,c6,c7,c8,c9,d0⟩:=at_T60 (Kd.N_reads' F.1).2.2 E b7 b8;obtain rfl:e8=o7:=(by injection r3);obtain ⟨y9,l3,l4,b0⟩:=Kd.N_get F.1 z60 E b7 (by first|exact b8|exact of_decide_eq_true (by first|(with_reducible assumption)|assumption)|(have e_:=(Kd.N_reads' F.1).1;omega));obtain ⟨t1,t2,t3,t4,rfl,a2,a3,a4,a5⟩:=k60_openF l4;have X:=b0 0 _ rfl;rw [Nat.add_zero] at X;replace X:=Option.some.inj (X.symm.trans c0);injection X with hva_ hvn_ hvc_;rw [hva_] at a3;rw [hvc_] at a2;have t5:=mk0 (show Kd.V (Kd.int .i64) 3 _ w.heap.size _ _ ((rd_T60 D E).f0) from Kd.V_mk a2 a3);clear hva_ hvn_ hvc_ a3 a2;have Y:=b0 1 _ rfl;rw [add_field _ _ 1 (by omega)] at Y;replace Y:=Option.some.inj (Y.symm.trans c6);injection Y with hva_ hvn_ hvc_;rw [hva_] at a5;rw [hvc_] at a4;have t6:=mk0 (show Kd.V (Kd.slice 3 (Kd.int .i64)) 23 _ w.heap.size _ _ ((rd_T60 D E).f1) from Kd.V_mk a4 a5);clear hva_ hvn_ hvc_ a5 a4;clear b0 l3;have d1:=mk0 c8;have f6:=mk0 c7;clear c8 c7;have t7:=mk0 d0;have t8:=mk0 c9;clear d0 c9;replace b7:=eq_true b7;replace b8:=eq_true b8;go_wp2_with (first|((with_reducible refine gate_callee (f:=45) rfl ?_);refine goesL_ (some 127) rfl rfl Try.func45 (by kernel_rfl) rfl #[.slice j9 ((rd_T60 D E).f0).length l2] rfl (by (try simp only [m0_,m1_,m2_]);first|done|rfl|(simp only [l0_,l1_];rfl)) ?_;(with_reducible refine (bellpullref05_Total.calls k7 _ _ ((rd_T60 D E).f0) e9 _ ?side1 ?side2 E0.1).mono ?_);(case side1=>repeat (first|exact (by repeat (first|(with_reducible exact d1.1)|(with_reducible refine Kd.C_alloc ?_ _)|(with_reducible refine Kd.C_drewN ?_ _)|(with_reducible refine Kd.C_drew ?_)|exact d1.1))|(with_reducible refine Kd.C_alloc ?_ _)|(with_reducible refine Kd.C_drewN ?_ _)|(with_reducible refine Kd.C_drew ?_)));(case side2=>exact f6.1);rintro e w' ⟨rfl,⟨nd,rfl⟩⟩;refine ⟨_,rfl,?_⟩;obtain ⟨N9,O0,O1⟩:=Kd.V_slice a9.1;subst O1)|((with_reducible refine gate_callee (f:=45) rfl ?_);refine goesL_ (some 129) rfl rfl Try.func45 (by kernel_rfl) rfl #[.slice N9 d2.length O0] rfl (by (try simp only [m0_,m1_,m2_]);first|done|rfl|(simp only [l0_,l1_];rfl)) ?_;(with_reducible refine (bellpullref05_Total.calls k7 _ _ d2 f2 _ ?side1 ?side2 E1.1).mono ?_);(case side1=>repeat (first|exact (Kd.V_reads' a9.1).2.2|(with_reducible refine Kd.C_alloc ?_ _)|(with_reducible refine Kd.C_drewN ?_ _)|(with_reducible refine Kd.C_drew ?_)));(case side2=>exact (Kd.V_reads' a9.1).2.1);rintro e w' ⟨rfl,⟨nd,rfl⟩⟩;refine ⟨_,rfl,?_⟩;have n9:0 ≤ (E:Int):=of_decide_eq_true (by first|(with_reducible assumption)|assumption);have o0:E < (D.length:Int):=of_decide_eq_true (by first|(with_reducible assumption)|assumption);obtain ⟨z6,F0,F1,F2,F3,A9,o8,o9,p0,p3,p4,p5⟩:=at_T60 (Kd.N_reads' F.1).2.2 E n9 o0;obtain rfl:e8=z6:=(by injection A9);obtain ⟨H4,x4,x5,l5⟩:=Kd.N_get F.1 z60 E n9 (by first|exact o0|exact of_decide_eq_true (by first|(with_reducible assumption)|assumption)|(have e_:=(Kd.N_reads' F.1).1;omega));obtain ⟨C3,C4,C5,C6,rfl,f7,f8,f9,g0⟩:=k60_openF x5;have d8:=l5 0 _ rfl;rw [Nat.add_zero] at d8;replace d8:=Option.some.inj (d8.symm.trans o8);injection d8 with hva_ hvn_ hvc_;rw [hva_] at f8;rw [hvc_] at f7;have C7:=mk0 (show Kd.V (Kd.int .i64) 3 _ w.heap.size _ _ ((rd_T60 D E).f0) from Kd.V_mk f7 f8);clear hva_ hvn_ hvc_ f8 f7;have d9:=l5 1 _ rfl;rw [add_field _ _ 1 (by omega)] at d9;replace d9:=Option.some.inj (d9.symm.trans o9);injection d9 with hva_ hvn_ hvc_;rw [hva_] at g0;rw [hvc_] at f9;have C8:=mk0 (show Kd.V (Kd.slice 3 (Kd.int .i64)) 23 _ w.heap.size _ _ ((rd_T60 D E).f1) from Kd.V_mk f9 g0);clear hva_ hvn_ hvc_ g0 f9;clear l5 x4;have p7:=mk0 p3;have u3:=mk0 p0;clear p3 p0;have C9:=mk0 p5;have D0:=mk0 p4;clear p5 p4;replace n9:=eq_true n9;replace o0:=eq_true o0;have ea_:=Option.some.inj (c0.symm.trans o8);injection ea_ with ea_ en_ ec_;subst ea_;subst ec_;clear en_;have ea_:=Option.some.inj (c6.symm.trans o9);injection ea_ with ea_ en_ ec_;subst ea_;subst ec_;clear en_)|(go_at_call 47;(with_reducible refine (bellpullref01_Before.calls k7 _ _ ((rd_T60 D E).f0) _ _ d2 false _ ?side1 ?side2 ?side3 ?side4 J1.1).mono ?_);(case side1=>repeat (first|exact (by repeat (first|(with_reducible exact p7.1)|(with_reducible refine Kd.C_alloc ?_ _)|(with_reducible refine Kd.C_drewN ?_ _)|(with_reducible refine Kd.C_drew ?_)|exact p7.1))|(with_reducible refine Kd.C_alloc ?_ _)|(with_reducible refine Kd.C_drewN ?_ _)|(with_reducible refine Kd.C_drew ?_)));(case side2=>exact u3.1);(case side3=>repeat (first|exact (Kd.V_reads' a9.1).2.2|(with_reducible refine Kd.C_alloc ?_ _)|(with_reducible refine Kd.C_drewN ?_ _)|(with_reducible refine Kd.C_drew ?_)));(case side4=>exact (Kd.V_reads' a9.1).2.1);rintro e w' ⟨rfl,⟨nd,rfl⟩⟩));go_roundg k7;(case measure=>have:=e7.1;have:=d5.1;have:=e0.1;have:=n8.1;have:=p8.1;have:=s3.1;have:=x8.1;omega);case rel=>exact ⟨(d2),(wrap64 (E + 1)),(by first|rfl|(simp;done)|(simp [*];done)),H',⟨by have:=e7.1;have:=d5.1;have:=e0.1;have:=n8.1;have:=p8.1;have:=s3.1;have:=x8.1;omega⟩,⟨by (with_reducible repeat (first|apply Kd.N_alloc|apply Kd.N_drewN|apply Kd.N_drew));exact F.1⟩,⟨by (with_reducible repeat (first|apply Kd.R_alloc|apply Kd.R_drewN|apply Kd.R_drew));exact Z.1⟩,⟨by (with_reducible repeat (first|apply Kd.V_alloc|apply Kd.V_drewN|apply Kd.V_drew));exact a9.1⟩,⟨by (with_reducible repeat (first|refine blk_drewN ?_ _|refine blk_drew ?_|refine blk_alloc ?_ _));exact B.1⟩,⟨by repeat (first|(with_reducible exact a7.1)|(with_reducible refine Kd.C_alloc ?_ _)|(with_reducible refine Kd.C_drewN ?_ _)|(with_reducible refine Kd.C_drew ?_)|exact a7.1)⟩,⟨by repeat (first|(with_reducible exact a8.1)|(with_reducible refine Kd.C_alloc ?_ _)|(with_reducible refine Kd.C_drewN ?_ _)|(with_reducible refine Kd.C_drew ?_)|exact a8.1)⟩,⟨by repeat (first|(with_reducible first|exact L.1|apply below_alloc|apply pw_below_drewN|apply below_drew1|refine below_set ?_ I.1)|exact L.1)⟩⟩);· rw [if_neg c61] at H;have c61b0:(e9 == f2)=false:=beq_eq_false_iff_ne.mpr c61;have c61b1:(e9 != f2)=true:=bne_iff_ne.mpr c61;have H':=mk0 H;clear H;have b7:0 ≤ (E:Int):=of_decide_eq_true (by first|(with_reducible assumption)|assumption);have b8:E < (D.length:Int):=of_decide_eq_true (by first|(with_reducible assumption)|assumption);obtain ⟨o7,j9,l2,x1,x2,r3,c0,c6,c7,c8,c9,d0⟩:=at_T60 (Kd.N_reads' F.1).2.2 E b7 b8;obtain rfl:e8=o7:=(by injection r3);obtain ⟨y9,l3,l4,b0⟩:=Kd.N_get F.1 z60 E b7 (by first|exact b8|exact of_decide_eq_true (by first|(with_reducible assumption)|assumption)|(have e_:=(Kd.N_reads' F.1).1;omega));obtain ⟨t1,t2,t3,t4,rfl,a2,a3,a4,a5⟩:=k60_openF l4;have X:=b0 0 _ rfl;rw [Nat.add_zero] at X;replace X:=Option.some.inj (X.symm.trans c0);injection X with hva_ hvn_ hvc_;rw [hva_] at a3;rw [hvc_] at a2;have t5:=mk0 (show Kd.V (Kd.int .i64) 3 _ w.heap.size _ _ ((rd_T60 D E).f0) from Kd.V_mk a2 a3);clear hva_ hvn_ hvc_ a3 a2;have Y:=b0 1 _ rfl;rw [add_field _ _ 1 (by omega)] at Y;replace Y:=Option.some.inj (Y.symm.trans c6);injection Y with hva_ hvn_ hvc_;rw [hva_] at a5;rw [hvc_] at a4;have t6:=mk0 (show Kd.V (Kd.slice 3 (Kd.int .i64)) 23 _ w.heap.size _ _ ((rd_T60 D E).f1) from Kd.V_mk a4 a5);clear hva_ hvn_ hvc_ a5 a4;clear b0 l3;have d1:=mk0 c8;have f6:=mk0 c7;clear c8 c7;have t7:=mk0 d0;have t8:=mk0 c9;clear d0 c9;replace b7:=eq_true b7;replace b8:=eq_true b8;go_wp2_with (first|((with_reducible refine gate_callee (f:=45) rfl ?_);refine goesL_ (some 127) rfl rfl Try.func45 (by kernel_rfl) rfl #[.slice j9 ((rd_T60 D E).f0).length l2] rfl (by (try simp only [m0_,m1_,m2_]);first|done|rfl|(simp only [l0_,l1_];rfl)) ?_;(with_reducible refine (bellpullref05_Total.calls k7 _ _ ((rd_T60 D E).f0) e9 _ ?side1 ?side2 E0.1).mono ?_);(case side1=>repeat (first|exact (by repeat (first|(with_reducible exact d1.1)|(with_reducible refine Kd.C_alloc ?_ _)|(with_reducible refine Kd.C_drewN ?_ _)|(with_reducible refine Kd.C_drew ?_)|exact d1.1))|(with_reducible refine Kd.C_alloc ?_ _)|(with_reducible refine Kd.C_drewN ?_ _)|(with_reducible refine Kd.C_drew ?_)));(case side2=>exact f6.1);rintro e w' ⟨rfl,⟨nd,rfl⟩⟩;refine ⟨_,rfl,?_⟩;obtain ⟨O2,O3,O4⟩:=Kd.V_slice a9.1;subst O4)|((with_reducible refine gate_callee (f:=45) rfl ?_);refine goesL_ (some 129) rfl rfl Try.func45 (by kernel_rfl) rfl #[.slice O2 d2.length O3] rfl (by (try simp only [m0_,m1_,m2_]);first|done|rfl|(simp only [l0_,l1_];rfl)) ?_;(with_reducible refine (bellpullref05_Total.calls k7 _ _ d2 f2 _ ?side1 ?side2 E1.1).mono ?_);(case side1=>repeat (first|exact (Kd.V_reads' a9.1).2.2|(with_reducible refine Kd.C_alloc ?_ _)|(with_reducible refine Kd.C_drewN ?_ _)|(with_reducible refine Kd.C_drew ?_)));(case side2=>exact (Kd.V_reads' a9.1).2.1);rintro e w' ⟨rfl,⟨nd,rfl⟩⟩;refine ⟨_,rfl,?_⟩));go_roundg k7;(case measure=>have:=e7.1;have:=d5.1;have:=e0.1;have:=n8.1;have:=p8.1;have:=s3.1;have:=x8.1;omega);case rel=>exact ⟨(d2),(wrap64 (E + 1)),(by first|rfl|(simp;done)|(simp [*];done)),H',⟨by have:=e7.1;have:=d5.1;have:=e0.1;have:=n8.1;have:=p8.1;have:=s3.1;have:=x8.1;omega⟩,⟨by (with_reducible repeat (first|apply Kd.N_alloc|apply Kd.N_drewN|apply Kd.N_drew));exact F.1⟩,⟨by (with_reducible repeat (first|apply Kd.R_alloc|apply Kd.R_drewN|apply Kd.R_drew));exact Z.1⟩,⟨by (with_reducible repeat (first|apply Kd.V_alloc|apply Kd.V_drewN|apply Kd.V_drew));exact a9.1⟩,⟨by (with_reducible repeat (first|refine blk_drewN ?_ _|refine blk_drew ?_|refine blk_alloc ?_ _));exact B.1⟩,⟨by repeat (first|(with_reducible exact a7.1)|(with_reducible refine Kd.C_alloc ?_ _)|(with_reducible refine Kd.C_drewN ?_ _)|(with_reducible refine Kd.C_drew ?_)|exact a7.1)⟩,⟨by repeat (first|(with_reducible exact a8.1)|(with_reducible refine Kd.C_alloc ?_ _)|(with_reducible refine Kd.C_drewN ?_ _)|(with_reducible refine Kd.C_drew ?_)|exact a8.1)⟩,⟨by repeat (first|(with_reducible first|exact L.1|apply below_alloc|apply pw_below_drewN|apply below_drew1|refine below_set ?_ I.1)|exact L.1)⟩⟩);· rw [if_neg c56] at H;exact absurd H (by simp));· rw [if_neg c55] at H;have c55b0:decide (E < (D.length:Int))=false:=decide_eq_false c55;clear c55;replace H:=Option.bind_eq_some_iff.mp H;obtain ⟨I7,H6,H⟩:=H;(try dsimp only at H);have U0:=mk0 H6;clear H6;by_cases E3:I7=true;(· (subst E3;have H1:(if a6=0 then ((bellpulllaw05_lives.f k7).bind fun B0=>(some B0)) else (none))=some r:=by rw [if_pos rfl] at H;exact H);clear H;have H:=H1;clear H1;by_cases c69:a6=0;(· rw [if_pos c69] at H;have c69b0:(a6 == 0)=true:=beq_iff_eq.mpr c69;have c69b1:(a6 != 0)=false:=bne_eq_false_iff_eq.mpr c69;clear c69;replace H:=Option.bind_eq_some_iff.mp H;obtain ⟨B0,H7,H⟩:=H;(try dsimp only at H);have U1:=mk0 H7;clear H7;obtain rfl:=Option.some.inj H;obtain ⟨O5,O6,O7⟩:=Kd.R_slice Z.1;subst O7;obtain ⟨O8,O9,Q0⟩:=Kd.V_slice a9.1;subst Q0;go_wp2_with (first|((with_reducible refine gate_callee (f:=44) rfl ?_);refine goesL_ (some 154) rfl rfl Try.func44 (by kernel_rfl) rfl #[.slice O5 a0.length O6,.slice O8 d2.length O9] rfl (by (try simp only [m0_,m1_,m2_]);first|done|rfl|(simp only [l0_,l1_];rfl)) ?_;(with_reducible refine (bellpullref01_Same.calls k7 _ _ a0 _ _ d2 true _ ?side1 ?side2 ?side3 ?side4 U0.1).mono ?_);(case side1=>repeat (first|exact (Kd.R_reads' Z.1).2.2|(with_reducible refine Kd.C_alloc ?_ _)|(with_reducible refine Kd.C_drewN ?_ _)|(with_reducible refine Kd.C_drew ?_)));(case side2=>exact (Kd.R_reads' Z.1).2.1);(case side3=>repeat (first|exact (Kd.V_reads' a9.1).2.2|(with_reducible refine Kd.C_alloc ?_ _)|(with_reducible refine Kd.C_drewN ?_ _)|(with_reducible refine Kd.C_drew ?_)));(case side4=>exact (Kd.V_reads' a9.1).2.1);rintro e w' ⟨rfl,⟨nd,rfl⟩⟩;refine ⟨_,rfl,?_⟩;refine stop_ ?_));delta Stop;go_wp2_with (go_at_call 22;refine stop_ ?_);delta Stop;(with_reducible refine (bellpulllaw05_lives.calls k7 B0 _ U1.1).mono ?_);rintro e Y1 ⟨rfl,hb⟩;replace L:=mk0 (below_step (pw_below_drewN L.1 _) hb);clear F Z a9 B a7 a8 hb;go_wp2;go_ret;exact ⟨rfl,L.1⟩);· rw [if_neg c69] at H;exact absurd H (by simp));· (replace E3:=Bool.eq_false_iff.mpr E3;subst E3;have H1:(none)=some r:=by rw [if_neg (show ¬ (false=true) by decide)] at H;exact H);clear H;have H:=H1;clear H1;exact absurd H (by simp)
               · rw [if_neg c54] at H;exact absurd H (by simp)
              · rw [if_neg c53] at H;have c53b0:(g2 == 0)=false:=beq_eq_false_iff_ne.mpr c53;have c53b1:(g2 != 0)=true:=bne_iff_ne.mpr c53;by_cases c74:(a0.length:Int)=0;(· rw [if_pos c74] at H;have c74b0:((a0.length:Int) == 0)=true:=beq_iff_eq.mpr c74;have c74b1:((a0.length:Int) != 0)=false:=bne_eq_false_iff_eq.mpr c74;clear c74;by_cases c75:a6=g2;(· rw [if_pos c75] at H;have c75b0:(a6 == g2)=true:=beq_iff_eq.mpr c75;have c75b1:(a6 != g2)=false:=bne_eq_false_iff_eq.mpr c75;clear c75;replace H:=Option.bind_eq_some_iff.mp H;obtain ⟨I8,H8,H⟩:=H;(try dsimp only at H);have U2:=mk0 H8;clear H8;obtain rfl:=Option.some.inj H;obtain ⟨X1,X2,Q1⟩:=Kd.R_slice Z.1;subst Q1;go_wp2_with (first|(go_at_call 22;(with_reducible refine (bellpulllaw05_lives.calls kj50  I8 _ U2.1).mono ?_);rintro e Y2 ⟨rfl,hb⟩;replace F:=mk0 (Kd.N_below (by (with_reducible repeat (first|apply Kd.N_alloc|apply Kd.N_drewN|apply Kd.N_drew));exact F.1) hb);replace Z:=mk0 (Kd.R_below (by (with_reducible repeat (first|apply Kd.R_alloc|apply Kd.R_drewN|apply Kd.R_drew));exact Z.1) hb);replace B:=mk0 (blk_below (g:=G) (o:=.cells #[.int .i64 M,.int .i64 O,.slice b1 Q.length b2,.slice b3 T.length b4,.slice b5 U.length b6] 25 (0,0)) (by (with_reducible repeat (first|refine blk_drewN ?_ _|refine blk_drew ?_|refine blk_alloc ?_ _));exact B.1) hb);replace L:=mk0 (below_step (by repeat (first|(with_reducible first|exact L.1|apply below_alloc|apply pw_below_drewN|apply below_drew1|refine below_set ?_ I.1)|exact L.1)) hb);(try clear hb)));go_ret;exact ⟨by first|rfl|(simp [errW_none,errW_some] <;> rfl)|(simp [*,errW_none,errW_some] <;> rfl),by repeat (first|(with_reducible first|exact L.1|apply below_alloc|apply pw_below_drewN|apply below_drew1|refine below_set ?_ I.1)|exact L.1)⟩);· rw [if_neg c75] at H;exact absurd H (by simp));· rw [if_neg c74] at H;exact absurd H (by simp)
end Go.Proofs.Ytkonljiembcdlaa.PC
/- Small tools for statements of the form 'with enough rounds the answer is r'. -/
set_option linter.unusedVariables false
set_option linter.unusedSimpArgs false
namespace Go.Proofs.Ytkonljiembcdlaa.Pure
open Go.RowKit Go.Proofs.YtkonljiembcdlaaW.PrintWords
theorem wrap_id {x:Int} (h0:-9223372036854775808 ≤ x) (h1:x ≤ 9223372036854775807):wrap64 x=x:=by
  unfold wrap64;omega
section
variable {α β:Type} {g a b:Nat → Option α} {r:α}
theorem Ev.rounds (h:Ev g r):∃ k,g k=some r:=by
  obtain ⟨K,hK⟩:=h
  exact ⟨K,hK K (Nat.le_refl _)⟩
theorem Ev.succ (h:Ev (fun k=>g (k + 1)) r):Ev g r:=Ev.step (fun _=>rfl) h
theorem Ev.pos {c:Prop} [Decidable c] (hc:c) (h:Ev a r):Ev (fun k=>if c then a k else b k) r:=by
  simpa only [if_pos hc] using h
theorem Ev.neg {c:Prop} [Decidable c] (hc:¬ c) (h:Ev b r):Ev (fun k=>if c then a k else b k) r:=by
  simpa only [if_neg hc] using h
theorem Ev.bindc {o:Option β} {f:Nat → β → Option α} {x:β} (ho:o=some x) (h:Ev (fun k=>f k x) r):Ev (fun k=>o.bind (f k)) r:=by
  subst ho;simpa only [Option.bind_some] using h
theorem Ev.const {o:Option α} (h:o=some r):Ev (fun _=>o) r:=⟨0,fun _ _=>h⟩
end
theorem rd_app (pre:List Int) (x:Int) (t:List Int):rd (pre ++ x :: t) (pre.length:Int)=x:=by
  simp [rd,List.getD_eq_getElem?_getD]
end Go.Proofs.Ytkonljiembcdlaa.Pure
/- Sums of periods, in plain Lean. -/
set_option linter.unusedVariables false
namespace Go.Proofs.Ytkonljiembcdlaa.Sem
abbrev Vec:=List Int
def addV:Vec → Vec → Vec
  | x :: v,y :: w=>(x + y) :: addV v w
  | _,_=>[]
def subV:Vec → Vec → Vec
  | x :: v,y :: w=>(x - y) :: subV v w
  | _,_=>[]
def zeroN (d:Nat):Vec:=List.replicate d 0
def nnV (v:Vec):Prop:=∀ x,x ∈ v → 0 ≤ x
instance (v:Vec):Decidable (nnV v):=by unfold nnV;infer_instance
theorem addV_comm:∀ v w:Vec,addV v w=addV w v
  | [],[]=>rfl
  | [],y :: w=>rfl
  | x :: v,[]=>rfl
  | x :: v,y :: w=>by rw [addV,addV,addV_comm v w,Int.add_comm]
theorem addV_assoc:∀ v w u:Vec,addV (addV v w) u=addV v (addV w u)
  | [],w,u=>by simp [addV]
  | x :: v,[],u=>by simp [addV]
  | x :: v,y :: w,[]=>by simp [addV]
  | x :: v,y :: w,z :: u=>by rw [addV,addV,addV,addV,addV_assoc v w u,Int.add_assoc]
theorem addV_swap (v w u:Vec):addV (addV v w) u=addV (addV v u) w:=by
  rw [addV_assoc,addV_comm w u,← addV_assoc]
theorem addV_len {d:Nat}:∀ {v w:Vec},v.length=d → w.length=d → (addV v w).length=d:=by
  induction d with
  | zero=>intro v w hv hw;rw [List.length_eq_zero_iff.1 hv,List.length_eq_zero_iff.1 hw];rfl
  | succ d ih =>
    intro v w hv hw
    match v,w,hv,hw with
    | x :: v,y :: w,hv,hw=>simp at hv hw;simp [addV,ih hv hw]
theorem subV_len {d:Nat}:∀ {v w:Vec},v.length=d → w.length=d → (subV v w).length=d:=by
  induction d with
  | zero=>intro v w hv hw;rw [List.length_eq_zero_iff.1 hv,List.length_eq_zero_iff.1 hw];rfl
  | succ d ih =>
    intro v w hv hw
    match v,w,hv,hw with
    | x :: v,y :: w,hv,hw=>simp at hv hw;simp [subV,ih hv hw]
theorem zeroN_len (d:Nat):(zeroN d).length=d:=List.length_replicate
theorem zeroN_mem {d:Nat} {x:Int} (h:x ∈ zeroN d):x=0:=List.eq_of_mem_replicate h
theorem zeroN_succ (d:Nat):zeroN (d + 1)=0 :: zeroN d:=rfl
theorem eq_zeroN:∀ {v:Vec} {d:Nat},v.length=d → (∀ x,x ∈ v → x=0) → v=zeroN d
  | v,d,h,hz=>List.eq_replicate_iff.2 ⟨h,hz⟩
theorem addV_zero:∀ {v:Vec} {d:Nat},v.length=d → addV v (zeroN d)=v
  | [],0,_=>rfl
  | x :: v,d + 1,h=>by
    simp at h
    rw [zeroN_succ,addV,addV_zero h,Int.add_zero]
theorem subV_add:∀ {v w:Vec},v.length=w.length → addV (subV v w) w=v
  | [],[],_=>rfl
  | x :: v,y :: w,h=>by
    simp at h
    rw [subV,addV,subV_add h,Int.sub_add_cancel]
theorem addV_sub:∀ {v w:Vec},v.length=w.length → subV (addV v w) w=v
  | [],[],_=>rfl
  | x :: v,y :: w,h=>by
    simp at h
    rw [addV,subV,addV_sub h,Int.add_sub_cancel]
theorem sum_addV:∀ {v w:Vec},v.length=w.length → (addV v w).sum=v.sum + w.sum
  | [],[],_=>rfl
  | x :: v,y :: w,h=>by
    simp at h
    rw [addV,List.sum_cons,List.sum_cons,List.sum_cons,sum_addV h]
    omega
theorem sum_subV {v w:Vec} (h:v.length=w.length):(subV v w).sum=v.sum - w.sum:=by
  have h1:=sum_addV (v:=subV v w) (w:=w) (by rw [subV_len h rfl])
  rw [subV_add h] at h1
  omega
theorem sum_zeroN:∀ d,(zeroN d).sum=0
  | 0=>rfl
  | d + 1=>by rw [zeroN_succ,List.sum_cons,sum_zeroN d];rfl
theorem nn_addV:∀ {v w:Vec},nnV v → nnV w → nnV (addV v w)
  | [],w,_,_=>by intro x hx;simp [addV] at hx
  | x :: v,[],_,_=>by intro x hx;simp [addV] at hx
  | x :: v,y :: w,hv,hw=>by
    intro z hz
    rw [addV] at hz
    rcases List.mem_cons.1 hz with rfl|hz
    · have:=hv x (by simp)
      have:=hw y (by simp)
      omega
    · exact nn_addV (fun a ha=>hv a (by simp [ha])) (fun a ha=>hw a (by simp [ha])) z hz
theorem sum_nn:∀ {v:Vec},nnV v → 0 ≤ v.sum
  | [],_=>by simp
  | x :: v,h=>by
    rw [List.sum_cons]
    have:=h x (by simp)
    have:=sum_nn (v:=v) (fun a ha=>h a (by simp [ha]))
    omega
theorem zero_of_sum:∀ {v:Vec},nnV v → v.sum=0 → ∀ x,x ∈ v → x=0
  | [],_,_=>by simp
  | x :: v,h,hs=>by
    rw [List.sum_cons] at hs
    have h1:=h x (by simp)
    have h2:=sum_nn (v:=v) (fun a ha=>h a (by simp [ha]))
    intro y hy
    rcases List.mem_cons.1 hy with rfl|hy
    · omega
    · exact zero_of_sum (fun a ha=>h a (by simp [ha])) (by omega) y hy
theorem mem_le_sum:∀ {v:Vec},nnV v → ∀ x,x ∈ v → x ≤ v.sum
  | [],_,x,hx=>by simp at hx
  | y :: v,h,x,hx=>by
    rw [List.sum_cons]
    have h1:=h y (by simp)
    have h2:=sum_nn (v:=v) (fun a ha=>h a (by simp [ha]))
    rcases List.mem_cons.1 hx with rfl|hx
    · omega
    · have:=mem_le_sum (v:=v) (fun a ha=>h a (by simp [ha])) x hx
      omega
theorem nn_zeroN (d:Nat):nnV (zeroN d):=fun x hx=>by rw [zeroN_mem hx];decide
inductive Comb (d:Nat) (ps:List Vec):Vec → Prop
  | zero:Comb d ps (zeroN d)
  | add {p w}:p ∈ ps → Comb d ps w → Comb d ps (addV w p)
def okD (d:Nat) (ps:List Vec):Prop:=∀ p,p ∈ ps → p.length=d∧nnV p
section
variable {d:Nat} {ps:List Vec}
theorem Comb.len (hp:okD d ps) {v:Vec} (h:Comb d ps v):v.length=d:=by
  induction h with
  | zero=>exact zeroN_len d
  | add h1 _ ih=>exact addV_len ih (hp _ h1).1
theorem Comb.nn (hp:okD d ps) {v:Vec} (h:Comb d ps v):nnV v:=by
  induction h with
  | zero=>exact nn_zeroN d
  | add h1 _ ih=>exact nn_addV ih (hp _ h1).2
theorem Comb.mono {qs:List Vec} (hs:∀ p,p ∈ ps → p ∈ qs) {v:Vec} (h:Comb d ps v):Comb d qs v:=by
  induction h with
  | zero=>exact .zero
  | add h1 _ ih=>exact .add (hs _ h1) ih
theorem comb_nil {v:Vec}:Comb d [] v ↔ v=zeroN d :=
  ⟨fun h=>by cases h with
    | zero=>rfl
    | add h1 _=>simp at h1,fun h=>h ▸ .zero⟩
theorem comb_cons {p v:Vec}:Comb d (p :: ps) v ↔ Comb d ps v ∨ ∃ w,Comb d (p :: ps) w∧v=addV w p:=by
  constructor
  · intro h
    induction h with
    | zero=>exact .inl .zero
    | @add q w h1 h2 ih =>
      rcases List.mem_cons.1 h1 with rfl|h1
      · exact .inr ⟨w,h2,rfl⟩
      · rcases ih with ih|⟨u,hu,rfl⟩
        · exact .inl (.add h1 ih)
        · exact .inr ⟨addV u q,.add (by simp [h1]) hu,addV_swap _ _ _⟩
  · rintro (h|⟨w,h,rfl⟩)
    · exact h.mono (fun q hq=>by simp [hq])
    · exact .add (by simp) h
theorem comb_sub {p v:Vec} (hp:okD d (p :: ps)) (hv:v.length=d):Comb d (p :: ps) v ↔ Comb d ps v ∨ Comb d (p :: ps) (subV v p):=by
  have hl:v.length=p.length:=hv.trans (hp p (by simp)).1.symm
  rw [comb_cons]
  constructor
  · rintro (h|⟨w,h,rfl⟩)
    · exact .inl h
    · rw [addV_sub ((h.len hp).trans (hp p (by simp)).1.symm)]
      exact .inr h
  · rintro (h|h)
    · exact .inl h
    · exact .inr ⟨_,h,(subV_add hl).symm⟩
theorem comb_skip {p:Vec} (hz:p=zeroN d) (hp:okD d ps) {v:Vec}:Comb d (p :: ps) v ↔ Comb d ps v:=by
  constructor
  · intro h
    induction h with
    | zero=>exact .zero
    | add h1 _ ih =>
      rcases List.mem_cons.1 h1 with rfl|h1
      · rw [hz,addV_zero (ih.len hp)];exact ih
      · exact .add h1 ih
  · exact fun h=>h.mono (fun q hq=>by simp [hq])
theorem comb_filter (hp:okD d ps) (f:Vec → Bool) (hf:∀ p,p ∈ ps → f p=false → p=zeroN d) {v:Vec}:Comb d (ps.filter f) v ↔ Comb d ps v:=by
  constructor
  · exact fun h=>h.mono (fun q hq=>(List.mem_filter.1 hq).1)
  · intro h
    have ho:okD d (ps.filter f):=fun q hq=>hp q (List.mem_filter.1 hq).1
    induction h with
    | zero=>exact .zero
    | @add p w h1 _ ih =>
      cases hb:f p with
      | true=>exact .add (List.mem_filter.2 ⟨h1,hb⟩) ih
      | false=>rw [hf p h1 hb,addV_zero (ih.len ho)];exact ih
end
end Go.Proofs.Ytkonljiembcdlaa.Sem
/- Differences of vectors, and sums of periods, as the program and the reference take them, in plain Lean. -/
set_option linter.unusedVariables false
set_option linter.unusedSimpArgs false
namespace Go.Proofs.Ytkonljiembcdlaa.Pure
open Go.RowKit Go.Proofs.MyWords Go.Proofs.YtkonljiembcdlaaW.PrintWords Go.Proofs.YtkonljiembcdlaaW.PrintLast Go.Proofs.YtkonljiembcdlaaW.PrintMore Go.Proofs.Ytkonljiembcdlaa.PC Go.Proofs.Ytkonljiembcdlaa.Sem
theorem getD_app {α:Type} (pre:List α) (x:α) (t:List α) (d:α):(pre ++ x :: t).getD ((pre.length:Int)).toNat d=x:=by
  simp [List.getD_eq_getElem?_getD]
theorem rdL1_app (pre:List (List Int)) (x:List Int) (t:List (List Int)):rd_L1 (pre ++ x :: t) (pre.length:Int)=x:=getD_app _ _ _ _
theorem rdL4_app (pre:List (List S60)) (x:List S60) (t:List (List S60)):rd_L4 (pre ++ x :: t) (pre.length:Int)=x:=getD_app _ _ _ _
theorem rdT60_app (pre:List S60) (x:S60) (t:List S60):rd_T60 (pre ++ x :: t) (pre.length:Int)=x:=getD_app _ _ _ _
theorem wsucc {n:Nat} (h:n < 4611686018427387904):wrap64 ((n:Int) + 1)=((n + 1:Nat):Int):=by rw [wrap_id (by omega) (by omega)];omega
theorem len_snoc {α:Type} (pre:List α) (x:α):pre.length + 1=(pre ++ [x]).length:=by simp
theorem app_snoc {α:Type} (pre:List α) (x:α) (t:List α):pre ++ x :: t=(pre ++ [x]) ++ t:=by simp
theorem lt_app {α:Type} (pre:List α) (x:α) (t:List α):(pre.length:Int) < ((pre ++ x :: t).length:Int):=by simp;omega
theorem set_app {α:Type} (pre:List α) (x y:α) (t:List α):(pre ++ x :: t).set ((pre.length:Int)).toNat y=pre ++ y :: t:=by simp
def inB (m:Int) (v:List Int):Prop:=∀ x,x ∈ v → 0 ≤ x∧x ≤ m
theorem inB.nn {m:Int} {v:List Int} (h:inB m v):nnV v:=fun x hx=>(h x hx).1
theorem outside_iff (v:List Int) (m:Int):(v.any fun x=>decide (x < 0) || decide (m < x))=true ↔ ¬ inB m v:=by
  rw [List.any_eq_true]
  constructor
  · rintro ⟨x,hx,h⟩ hi
    have:=hi x hx
    simp at h
    omega
  · intro h
    apply Classical.byContradiction
    intro h2
    refine h (fun x hx=>?_)
    apply Classical.byContradiction
    intro h3
    exact h2 ⟨x,hx,by simp;omega⟩
theorem less_go (m:Int):∀ (v2 w2 v1 w1 o1:List Int),v1.length=w1.length → o1.length=v1.length → v2.length=w2.length → inB 1000000 v2 → inB 1000000 w2 → (v1 ++ v2).length < 1000000 →
    Ev (fun k=>count_less.l0 k (v1 ++ v2) (w1 ++ w2) (o1 ++ List.replicate v2.length 0) ((v1 ++ v2).length:Int) (v1.length:Int)) (o1 ++ subV v2 w2,!((o1 ++ subV v2 w2).any fun x=>decide (x < 0) || decide (60 < x)))
  | [],[],v1,w1,o1,h1,h2,h3,b1,b2,hl=>by
    refine Ev.succ ?_
    simp only [count_less.l0]
    refine Ev.neg (by simp) ?_
    refine Ev.bindc (x:=(o1 ++ subV [] []).any fun x=>decide (x < 0) || decide (60 < x)) (by simp [count_outside.f,subV]) ?_
    simp [subV]
    exact Ev.now _
  | x :: v2,y :: w2,v1,w1,o1,h1,h2,h3,b1,b2,hl=>by
    have hlen:(v1 ++ x :: v2).length=v1.length + (v2.length + 1):=by simp
    have ih:=less_go m v2 w2 (v1 ++ [x]) (w1 ++ [y]) (o1 ++ [x - y]) (by simp [h1]) (by simp [h2]) (by simpa using h3) (fun z hz=>b1 z (by simp [hz])) (fun z hz=>b2 z (by simp [hz])) (by simp at hl ⊢;omega)
    have bx:=b1 x (by simp)
    have by':=b2 y (by simp)
    refine Ev.succ ?_
    simp only [count_less.l0]
    refine Ev.pos (by simp;omega) (Ev.pos (by omega) (Ev.pos (by simp;omega) (Ev.pos (by simp;omega) (Ev.pos (by simp;omega) ?_))))
    rw [rd_app v1 x v2,show (v1.length:Int)=(w1.length:Int) by omega,rd_app w1 y w2,← h1,wrap_id (by omega) (by omega),wsucc (by simp at hl;omega)]
    rw [← app_snoc,← app_snoc] at ih
    have e:(o1 ++ List.replicate (x :: v2).length 0).set ((v1.length:Int)).toNat (x - y)=o1 ++ [x - y] ++ List.replicate v2.length 0:=by
      rw [← h2,List.length_cons,List.replicate_succ,set_app];simp
    rw [e,len_snoc v1 x,subV]
    rw [List.append_assoc o1 [x - y] (subV v2 w2)] at ih
    exact ih
theorem less_ev {v w:List Int} (h:v.length=w.length) (hv:inB 1000000 v) (hw:inB 1000000 w) (hl:v.length < 1000000):Ev (fun k=>count_less.f k v w) (subV v w,!((subV v w).any fun x=>decide (x < 0) || decide (60 < x))):=by
  have:=less_go 0 v w [] [] [] rfl rfl h hv hw hl
  simp only [List.nil_append,List.length_nil] at this
  unfold count_less.f
  refine Ev.pos (by omega) (Ev.pos (by omega) ?_)
  rw [Int.toNat_natCast]
  exact this
theorem less_ok {m:Int} {v w:List Int} (h:v.length=w.length) (hv:inB 60 v) (hw:inB 1000000 w) (hl:v.length < 1000000):Ev (fun k=>count_less.f k v w) (subV v w,decide (nnV (subV v w))):=by
  have h1:=less_ev h (fun x hx=>⟨(hv x hx).1,by have:=hv x hx;omega⟩) hw hl
  have le60:∀ (v w:List Int),inB 60 v → nnV w → ∀ x,x ∈ subV v w → x ≤ 60:=fun v=>by
    induction v with
    | nil=>intro w _ _ x hx;simp [subV] at hx
    | cons a v ih =>
      intro w hv hw x hx
      match w,hw,hx with
      | b :: w,hw,hx =>
        rw [subV] at hx
        rcases List.mem_cons.1 hx with rfl|hx
        · have:=hv a (by simp)
          have:=hw b (by simp)
          omega
        · exact ih w (fun z hz=>hv z (by simp [hz])) (fun z hz=>hw z (by simp [hz])) x hx
  have e:(!((subV v w).any fun x=>decide (x < 0) || decide (60 < x)))=decide (nnV (subV v w)):=by
    rw [Bool.eq_iff_iff,decide_eq_true_iff,Bool.not_eq_true',← Bool.not_eq_true,outside_iff]
    constructor
    · intro h x hx
      exact (Classical.byContradiction h x hx).1
    · exact fun h hn=>hn (fun x hx=>⟨h x hx,le60 v w hv hw.nn x hx⟩)
  rw [← e]
  exact h1
theorem refLess_go:∀ (v2 w2 v1 w1 o1:List Int) (ok:Bool),v1.length=w1.length → v2.length=w2.length → inB 1000000 v2 → inB 1000000 w2 → (v1 ++ v2).length < 1000000 → o1.length=v1.length →
    Ev (fun k=>bellpullref05_Less.l0 k (v1 ++ v2) (w1 ++ w2) o1 ok (v1.length:Int)) (o1 ++ subV v2 w2,ok && decide (nnV (subV v2 w2)))
  | [],[],v1,w1,o1,ok,h1,h3,b1,b2,hl,ho=>by
    refine Ev.succ ?_
    simp only [bellpullref05_Less.l0]
    refine Ev.neg (by simp) ?_
    have:decide (nnV (subV [] []))=true:=decide_eq_true (fun x hx=>by simp [subV] at hx)
    rw [this]
    simp [subV]
    exact Ev.now _
  | x :: v2,y :: w2,v1,w1,o1,ok,h1,h3,b1,b2,hl,ho=>by
    have ih:∀ ok:Bool,Ev (fun k=>bellpullref05_Less.l0 k (v1 ++ x :: v2) (w1 ++ y :: w2) (o1 ++ [x - y]) ok ((v1.length + 1:Nat):Int)) (o1 ++ (x - y) :: subV v2 w2,ok && decide (nnV (subV v2 w2))):=fun ok=>by
      have:=refLess_go v2 w2 (v1 ++ [x]) (w1 ++ [y]) (o1 ++ [x - y]) ok (by simp [h1]) (by simpa using h3) (fun z hz=>b1 z (by simp [hz])) (fun z hz=>b2 z (by simp [hz])) (by simp at hl ⊢;omega) (by simp [ho])
      rw [← app_snoc,← app_snoc,← len_snoc,List.append_assoc o1] at this
      exact this
    have bx:=b1 x (by simp)
    have by':=b2 y (by simp)
    have e:decide (nnV (subV (x :: v2) (y :: w2)))=(decide (x ≥ y) && decide (nnV (subV v2 w2))):=by
      rw [Bool.eq_iff_iff,Bool.and_eq_true,decide_eq_true_iff,decide_eq_true_iff,decide_eq_true_iff,subV]
      constructor
      · exact fun h=>⟨by have:=h (x - y) (by simp);omega,fun z hz=>h z (by simp [hz])⟩
      · rintro ⟨h,h2⟩ z hz
        rcases List.mem_cons.1 hz with rfl|hz
        · omega
        · exact h2 z hz
    refine Ev.succ ?_
    simp only [bellpullref05_Less.l0]
    refine Ev.pos (by simp;omega) (Ev.pos (by omega) (Ev.pos (by simp;omega) (Ev.pos (by simp at hl;omega) ?_)))
    rw [rd_app v1 x v2,show (v1.length:Int)=(w1.length:Int) by omega,rd_app w1 y w2,← h1,wrap_id (by omega) (by omega),wsucc (by simp at hl;omega)]
    simp only [Option.bind_some]
    rw [e,subV]
    cases ok with
    | true =>
      refine Ev.pos rfl ?_
      rw [Bool.true_and]
      exact ih _
    | false =>
      refine Ev.neg (by simp) ?_
      rw [Bool.false_and]
      have:=ih false
      rw [Bool.false_and] at this
      exact this
theorem refLess_ev {v w:List Int} (h:v.length=w.length) (hv:inB 1000000 v) (hw:inB 1000000 w) (hl:v.length < 1000000):Ev (fun k=>bellpullref05_Less.f k v w) (subV v w,decide (nnV (subV v w))):=by
  have:=refLess_go v w [] [] [] true rfl h hv hw hl rfl
  simp only [List.nil_append,List.length_nil,Bool.true_and] at this
  exact this
theorem refTotal_go:∀ (v2 v1:List Int) (s:Int),inB 1000000 v2 → 0 ≤ s → s ≤ 1000000 * v1.length → (v1 ++ v2).length < 1000000 → Ev (fun k=>bellpullref05_Total.l0 k (v1 ++ v2) s (v1.length:Int)) (s + v2.sum)
  | [],v1,s,_,h0,h1,hl=>by
    refine Ev.succ ?_
    simp only [bellpullref05_Total.l0]
    refine Ev.neg (by simp) ?_
    simp
    exact Ev.now _
  | x :: v2,v1,s,hb,h0,h1,hl=>by
    have bx:=hb x (by simp)
    have ih:=refTotal_go v2 (v1 ++ [x]) (s + x) (fun z hz=>hb z (by simp [hz])) (by omega) (by simp;omega) (by simp at hl ⊢;omega)
    rw [← app_snoc,← len_snoc] at ih
    refine Ev.succ ?_
    simp only [bellpullref05_Total.l0]
    refine Ev.pos (by simp;omega) (Ev.pos (by omega) ?_)
    have hl2:v1.length < 1000000:=by simp at hl;omega
    rw [rd_app,wrap_id (x:=s + x) (by omega) (by omega),wsucc (by omega),List.sum_cons,← Int.add_assoc]
    exact ih
theorem refTotal_ev {v:List Int} (hv:inB 1000000 v) (hl:v.length < 1000000):Ev (fun k=>bellpullref05_Total.f k v) v.sum:=by
  have:=refTotal_go v [] 0 hv (by omega) (by simp) hl
  simp only [List.nil_append,List.length_nil,Int.zero_add] at this
  exact this
end Go.Proofs.Ytkonljiembcdlaa.Pure
/- Has, of the program and of the reference, in plain Lean. -/
set_option linter.unusedVariables false
set_option linter.unusedSimpArgs false
namespace Go.Proofs.Ytkonljiembcdlaa.Pure
open Go.RowKit Go.Proofs.MyWords Go.Proofs.YtkonljiembcdlaaW.PrintWords Go.Proofs.YtkonljiembcdlaaW.PrintLast Go.Proofs.YtkonljiembcdlaaW.PrintMore Go.Proofs.Ytkonljiembcdlaa.PC Go.Proofs.Ytkonljiembcdlaa.Sem
def okV (d:Nat) (m:Int) (v:List Int):Prop:=v.length=d∧inB m v
theorem okV.mono {d:Nat} {m n:Int} {v:List Int} (h:okV d m v) (hm:m ≤ n):okV d n v:=⟨h.1,fun x hx=>⟨(h.2 x hx).1,by have:=h.2 x hx;omega⟩⟩
def okP (d:Nat) (ps:List (List Int)):Prop:=∀ p,p ∈ ps → okV d 1000000 p
theorem okP.okD {d:Nat} {ps:List (List Int)} (h:okP d ps):okD d ps:=fun p hp=>⟨(h p hp).1,(h p hp).2.nn⟩
theorem okP.tail {d:Nat} {p:List Int} {ps:List (List Int)} (h:okP d (p :: ps)):okP d ps:=fun q hq=>h q (by simp [hq])
theorem sub60 {d:Nat} {v w:List Int} (hv:okV d 60 v) (hw:okV d 1000000 w) (h:nnV (subV v w)):okV d 60 (subV v w):=by
  refine ⟨subV_len hv.1 hw.1,fun x hx=>⟨h x hx,?_⟩⟩
  have:∀ (v w:List Int),inB 60 v → nnV w → ∀ x,x ∈ subV v w → x ≤ 60:=fun v=>by
    induction v with
    | nil=>intro w _ _ x hx;simp [subV] at hx
    | cons a v ih =>
      intro w hv hw x hx
      match w,hw,hx with
      | b :: w,hw,hx =>
        rw [subV] at hx
        rcases List.mem_cons.1 hx with rfl|hx
        · have:=hv a (by simp)
          have:=hw b (by simp)
          omega
        · exact ih w (fun z hz=>hv z (by simp [hz])) (fun z hz=>hw z (by simp [hz])) x hx
  exact this v w hv.2 hw.2.nn x hx
theorem zeroV_iff (v:List Int):zeroV v=true ↔ ∀ x,x ∈ v → x=0:=by
  unfold zeroV
  rw [Bool.not_eq_true',← Bool.not_eq_true,List.any_eq_true]
  constructor
  · intro h x hx
    apply Classical.byContradiction
    intro h2
    exact h ⟨x,hx,by simp [h2]⟩
  · rintro h ⟨x,hx,h2⟩
    rw [h x hx] at h2
    simp at h2
theorem zero_f (v:List Int):count_zero.f v=some (zeroV v):=rfl
theorem pos_of_nz {p:List Int} (hn:nnV p) (h:zeroV p=false):0 < p.sum:=by
  have:=sum_nn hn
  rcases Int.lt_or_eq_of_le this with h1|h1
  · exact h1
  · have:=(zeroV_iff p).2 (zero_of_sum hn h1.symm)
    rw [h] at this
    cases this
theorem made_nil (v:List Int):Ev (fun k=>count_made.f k v []) (zeroV v):=by
  refine Ev.succ ?_
  simp only [count_made.f,zero_f,Option.bind_some]
  cases h:zeroV v with
  | true=>exact Ev.pos rfl (Ev.now _)
  | false=>exact Ev.neg (by simp) (Ev.pos (by simp) (Ev.now _))
theorem made_ev (d:Nat) (hd:d < 1000000):∀ (ps:List (List Int)),okP d ps → (∀ p,p ∈ ps → zeroV p=false) → ∀ v,okV d 60 v → ∃ b,Ev (fun k=>count_made.f k v ps) b∧(b=true ↔ Comb d ps v)
  | [],_,_,v,hv=>⟨_,made_nil v,by
      rw [zeroV_iff,comb_nil]
      exact ⟨eq_zeroN hv.1,fun h x hx=>by rw [h] at hx;exact zeroN_mem hx⟩⟩
  | p :: ps,hp,hz,v,hv=>by
    have IH:=made_ev d hd ps hp.tail (fun q hq=>hz q (by simp [hq]))
    have pp:0 < p.sum:=pos_of_nz (hp p (by simp)).2.nn (hz p (by simp))
    have loop:∀ (n:Nat) (v:List Int),v.sum.toNat < n → okV d 60 v → ∃ b,Ev (fun k=>count_made.l0 k v (p :: ps) true) b∧(b=true ↔ Comb d (p :: ps) v):=fun n=>by
      induction n with
      | zero=>intro v h _;omega
      | succ n ih =>
        intro v hn hv
        have hl:v.length=p.length:=hv.1.trans (hp p (by simp)).1.symm
        have hle:=less_ok (m:=0) hl hv.2 (hp p (by simp)).2 (by rw [hv.1];exact hd)
        obtain ⟨b1,e1,i1⟩:=IH v hv
        have hc:=comb_sub hp.okD (v:=v) hv.1
        cases b1 with
        | true =>
          refine ⟨true,?_,⟨fun _=>hc.2 (.inl (i1.1 rfl)),fun _=>rfl⟩⟩
          refine Ev.succ ?_
          simp only [count_made.l0]
          refine Ev.pos trivial (Ev.pos (by simp <;> omega) (Ev.bind e1 (Ev.pos rfl (Ev.now _))))
        | false =>
          have hno:¬ Comb d ps v:=fun h=>by have:=i1.2 h;cases this
          have rd0:rd_L1 (p :: ps) 0=p:=rfl
          have start:∀ b,Ev (fun k=>count_made.l0 k (subV v p) (p :: ps) (decide (nnV (subV v p)))) b → Ev (fun k=>count_made.l0 k v (p :: ps) true) b:=fun b hb=>by
            refine Ev.succ ?_
            simp only [count_made.l0]
            refine Ev.pos trivial (Ev.pos (by simp <;> omega) (Ev.bind e1 (Ev.neg (by simp) (Ev.pos (by simp <;> omega) ?_))))
            rw [rd0]
            exact Ev.bind hle hb
          by_cases hnn:nnV (subV v p)
          · have hs:=sub60 hv (hp p (by simp)) hnn
            have hsum:=sum_subV hl
            have:=sum_nn hs.2.nn
            have:=sum_nn hv.2.nn
            obtain ⟨b,e2,i2⟩:=ih (subV v p) (by omega) hs
            refine ⟨b,start b (by rw [decide_eq_true hnn];exact e2),?_⟩
            rw [i2,hc]
            exact ⟨.inr,fun h=>h.resolve_left hno⟩
          · refine ⟨false,start false (by rw [decide_eq_false hnn];refine Ev.succ ?_;simp only [count_made.l0];exact Ev.neg (by simp) (Ev.now _)),⟨fun h=>(by cases h),fun h=>?_⟩⟩
            rcases hc.1 h with h|h
            · exact absurd h hno
            · exact absurd (h.nn hp.okD) hnn
    cases hzv:zeroV v with
    | true =>
      have:v=zeroN d:=eq_zeroN hv.1 ((zeroV_iff v).1 hzv)
      refine ⟨true,?_,⟨fun _=>this ▸ .zero,fun _=>rfl⟩⟩
      refine Ev.succ ?_
      simp only [count_made.f,zero_f,Option.bind_some,hzv]
      exact Ev.pos trivial (Ev.now _)
    | false =>
      obtain ⟨b,e,i⟩:=loop (v.sum.toNat + 1) v (by omega) hv
      refine ⟨b,?_,i⟩
      refine Ev.succ ?_
      simp only [count_made.f,zero_f,Option.bind_some,hzv]
      exact Ev.neg (by simp) (Ev.neg (by simp <;> omega) e)
def InL (d:Nat) (b:List Int) (ps:List (List Int)) (v:List Int):Prop:=∃ w,Comb d ps w∧v=addV b w
def InS (d:Nat) (set:List S60) (v:List Int):Prop:=∃ l,l ∈ set∧InL d l.f0 l.f1 v
def okL (d:Nat) (l:S60):Prop:=okV d 1000000 l.f0∧okP d l.f1∧l.f1.length ≤ 1000000
theorem inL_sub {d:Nat} {b:List Int} {ps:List (List Int)} (hb:okV d 1000000 b) (hp:okP d ps) {v:List Int} (hv:v.length=d):InL d b ps v ↔ nnV (subV v b)∧Comb d ps (subV v b):=by
  constructor
  · rintro ⟨w,hw,rfl⟩
    have hl:=hw.len hp.okD
    rw [addV_comm,addV_sub (hl.trans hb.1.symm)]
    exact ⟨hw.nn hp.okD,hw⟩
  · rintro ⟨_,h⟩
    exact ⟨_,h,by rw [addV_comm,subV_add (hv.trans hb.1.symm)]⟩
theorem in_ev {d:Nat} (hd:d < 1000000) {l:S60} (hl:okL d l) {v:List Int} (hv:okV d 60 v):∃ b,Ev (fun k=>count_in.f k l.f0 l.f1 v) b∧(b=true ↔ InL d l.f0 l.f1 v):=by
  obtain ⟨hb,hp,hn⟩:=hl
  have hle:=less_ok (m:=0) (hv.1.trans hb.1.symm) hv.2 hb.2 (by rw [hv.1];exact hd)
  have hi:=inL_sub hb hp hv.1
  have start:∀ b,Ev (fun k=>if decide (nnV (subV v l.f0))=true then count_made.f k (subV v l.f0) (l.f1.filter fun x=>!zeroV x) else some false) b → Ev (fun k=>count_in.f k l.f0 l.f1 v) b:=fun b h=>by
    unfold count_in.f
    exact Ev.pos (by omega) (Ev.bind hle h)
  by_cases hnn:nnV (subV v l.f0)
  · have hz:∀ p,p ∈ (l.f1.filter fun x=>!zeroV x) → zeroV p=false:=fun p h=>by simpa using (List.mem_filter.1 h).2
    obtain ⟨b,e,i⟩:=made_ev d hd (l.f1.filter fun x=>!zeroV x) (fun p h=>hp p (List.mem_filter.1 h).1) hz _ (sub60 hv hb hnn)
    refine ⟨b,start b (Ev.pos (decide_eq_true hnn) e),?_⟩
    rw [i,hi,comb_filter hp.okD (fun x=>!zeroV x) (fun p h hf=>eq_zeroN (hp p h).1 ((zeroV_iff p).1 (by simpa using hf)))]
    exact ⟨fun h=>⟨hnn,h⟩,fun h=>h.2⟩
  · exact ⟨false,start false (Ev.neg (by simpa using hnn) (Ev.now _)),⟨fun h=>(by cases h),fun h=>absurd (hi.1 h).1 hnn⟩⟩
theorem has_go {d:Nat} (hd:d < 1000000) {v:List Int} (hv:okV d 60 v):∀ set:List S60,(∀ l,l ∈ set → okL d l) → ∃ b,Ev (fun k=>count_has.g k v set) b∧(b=true ↔ InS d set v)
  | [],_=>⟨false,Ev.now _,⟨fun h=>(by cases h),fun ⟨l,h,_⟩=>by simp at h⟩⟩
  | l :: set,h=>by
    obtain ⟨b,e,i⟩:=in_ev hd (h l (by simp)) hv
    obtain ⟨c,f,j⟩:=has_go hd hv set (fun x hx=>h x (by simp [hx]))
    refine ⟨b || c,Ev.bind e (Ev.bind f (Ev.now _)),?_⟩
    rw [Bool.or_eq_true,i,j]
    constructor
    · rintro (h|⟨x,hx,h⟩)
      · exact ⟨l,by simp,h⟩
      · exact ⟨x,by simp [hx],h⟩
    · rintro ⟨x,hx,h2⟩
      rcases List.mem_cons.1 hx with rfl|hx
      · exact .inl h2
      · exact .inr ⟨x,hx,h2⟩
theorem has_ev {d:Nat} (hd:d < 1000000) {v:List Int} (hv:okV d 60 v) {set:List S60} (h:∀ l,l ∈ set → okL d l):∃ b,Ev (fun k=>count_has.f k set v) b∧(b=true ↔ InS d set v):=has_go hd hv set h
theorem refSums_ev (d:Nat) (hd:d < 1000000):∀ (n:Nat) (v:List Int) (ps:List (List Int)),v.sum.toNat < n → okV d 1000000 v → okP d ps → ps.length < 1000000 → ∃ b,Ev (fun k=>bellpullref05_sums.f k v ps) b∧(b=true ↔ Comb d ps v)
  | 0,v,ps,hn,_,_,_=>by omega
  | n + 1,v,ps,hn,hv,hp,hlen=>by
    have IH:=refSums_ev d hd n
    have tv:=refTotal_ev hv.2 (by rw [hv.1];exact hd)
    by_cases h0:v.sum=0
    · have:v=zeroN d:=eq_zeroN hv.1 (zero_of_sum hv.2.nn h0)
      refine ⟨true,?_,⟨fun _=>this ▸ .zero,fun _=>rfl⟩⟩
      refine Ev.succ ?_
      simp only [bellpullref05_sums.f]
      exact Ev.bind tv (Ev.pos h0 (Ev.now _))
    · have vp:0 < v.sum:=by have:=sum_nn hv.2.nn;omega
      have loop:∀ (t pre:List (List Int)),okP d t → (pre ++ t).length < 1000000 → ∃ b,Ev (fun k=>bellpullref05_sums.l0 k v (pre ++ t) (pre.length:Int)) b∧(b=true ↔ Comb d t v):=fun t=>by
        induction t with
        | nil =>
          intro pre _ _
          refine ⟨false,Ev.succ ?_,⟨fun h=>(by cases h),fun h=>?_⟩⟩
          · simp only [bellpullref05_sums.l0]
            exact Ev.neg (by simp) (Ev.now _)
          · rw [comb_nil.1 h,sum_zeroN] at h0
            exact absurd rfl h0
        | cons p t ih =>
          intro pre hpt hlen
          obtain ⟨b,e,i⟩:=ih (pre ++ [p]) hpt.tail (by simp at hlen ⊢;omega)
          rw [← app_snoc,← len_snoc] at e
          have op:=hpt p (by simp)
          have tp:=refTotal_ev op.2 (by rw [op.1];exact hd)
          have ws:wrap64 ((pre.length:Int) + 1)=((pre.length + 1:Nat):Int):=wsucc (by simp at hlen;omega)
          by_cases hp0:p.sum=0
          · have pz:p=zeroN d:=eq_zeroN op.1 (zero_of_sum op.2.nn hp0)
            refine ⟨b,Ev.succ ?_,i.trans (comb_skip pz hpt.tail.okD).symm⟩
            simp only [bellpullref05_sums.l0,rdL1_app,ws]
            exact Ev.pos (lt_app _ _ _) (Ev.pos (by omega) (Ev.bind tp (Ev.pos hp0 e)))
          · have hl:v.length=p.length:=hv.1.trans op.1.symm
            have hle:=refLess_ev hl hv.2 op.2 (by rw [hv.1];exact hd)
            have hc:=comb_sub hpt.okD (v:=v) hv.1
            have pp:0 < p.sum:=by have:=sum_nn op.2.nn;omega
            have hdrop:(pre ++ p :: t).drop ((pre.length:Int)).toNat=p :: t:=by simp
            by_cases hnn:nnV (subV v p)
            · have hs:okV d 1000000 (subV v p):=by
                refine ⟨subV_len hv.1 op.1,fun x hx=>⟨hnn x hx,?_⟩⟩
                have:∀ (v w:List Int),inB 1000000 v → nnV w → ∀ x,x ∈ subV v w → x ≤ 1000000:=fun v=>by
                  induction v with
                  | nil=>intro w _ _ x hx;simp [subV] at hx
                  | cons a v ih =>
                    intro w hv hw x hx
                    match w,hw,hx with
                    | b :: w,hw,hx =>
                      rw [subV] at hx
                      rcases List.mem_cons.1 hx with rfl|hx
                      · have:=hv a (by simp)
                        have:=hw b (by simp)
                        omega
                      · exact ih w (fun z hz=>hv z (by simp [hz])) (fun z hz=>hw z (by simp [hz])) x hx
                exact this v p hv.2 op.2.nn x hx
              have hsum:=sum_subV hl
              have:=sum_nn hs.2.nn
              obtain ⟨c,f,j⟩:=IH (subV v p) (p :: t) (by omega) hs hpt (by simp at hlen ⊢;omega)
              refine ⟨if c=true then true else b,Ev.succ ?_,?_⟩
              · simp only [bellpullref05_sums.l0,rdL1_app,ws]
                refine Ev.pos (lt_app _ _ _) (Ev.pos (by omega) (Ev.bind tp (Ev.neg hp0 (Ev.bind hle (Ev.pos (decide_eq_true hnn) (Ev.pos (by simp;omega) ?_))))))
                rw [hdrop]
                refine Ev.bind f ?_
                cases c with
                | true=>exact Ev.pos rfl (Ev.now _)
                | false=>exact Ev.neg (by simp) e
              · rw [hc,← j,← i]
                cases c <;> simp
            · refine ⟨b,Ev.succ ?_,?_⟩
              · simp only [bellpullref05_sums.l0,rdL1_app,ws]
                exact Ev.pos (lt_app _ _ _) (Ev.pos (by omega) (Ev.bind tp (Ev.neg hp0 (Ev.bind hle (Ev.neg (by simpa using hnn) e)))))
              · rw [i,hc]
                exact ⟨.inl,fun h=>h.resolve_right (fun h=>hnn (h.nn hpt.okD))⟩
      obtain ⟨b,e,i⟩:=loop ps [] hp hlen
      refine ⟨b,?_,i⟩
      refine Ev.succ ?_
      simp only [bellpullref05_sums.f]
      exact Ev.bind tv (Ev.neg h0 e)
theorem refHas_go {d:Nat} (hd:d < 1000000) {v:List Int} (hv:okV d 60 v):∀ (t pre:List S60),(∀ l,l ∈ t → okL d l∧l.f1.length < 1000000) → (pre ++ t).length < 1000000 → ∃ b,Ev (fun k=>bellpullref05_Has.l0 k (pre ++ t) v (pre.length:Int)) b∧(b=true ↔ InS d t v)
  | [],pre,_,_=>⟨false,by
      refine Ev.succ ?_
      simp only [bellpullref05_Has.l0]
      exact Ev.neg (by simp) (Ev.now _),⟨fun h=>(by cases h),fun ⟨l,h,_⟩=>by simp at h⟩⟩
  | l :: t,pre,h,hlen=>by
    obtain ⟨b,e,i⟩:=refHas_go hd hv t (pre ++ [l]) (fun x hx=>h x (by simp [hx])) (by simp at hlen ⊢;omega)
    rw [← app_snoc,← len_snoc] at e
    obtain ⟨⟨hb,hp,hn⟩,hn2⟩:=h l (by simp)
    have ws:wrap64 ((pre.length:Int) + 1)=((pre.length + 1:Nat):Int):=wsucc (by simp at hlen;omega)
    have hle:=refLess_ev (hv.1.trans hb.1.symm) (hv.mono (by decide)).2 hb.2 (by rw [hv.1];exact hd)
    have hi:=inL_sub hb hp hv.1
    have hs:InS d (l :: t) v ↔ InL d l.f0 l.f1 v ∨ InS d t v:=by
      constructor
      · rintro ⟨x,hx,h2⟩
        rcases List.mem_cons.1 hx with rfl|hx
        · exact .inl h2
        · exact .inr ⟨x,hx,h2⟩
      · rintro (h|⟨x,hx,h⟩)
        · exact ⟨l,by simp,h⟩
        · exact ⟨x,by simp [hx],h⟩
    by_cases hnn:nnV (subV v l.f0)
    · obtain ⟨c,f,j⟩:=refSums_ev d hd _ (subV v l.f0) l.f1 (Nat.lt_succ_self _) ((sub60 hv hb hnn).mono (by decide)) hp hn2
      refine ⟨if c=true then true else b,Ev.succ ?_,?_⟩
      · simp only [bellpullref05_Has.l0,rdT60_app,ws]
        refine Ev.pos (lt_app _ _ _) (Ev.pos (by omega) (Ev.bind hle (Ev.pos (decide_eq_true hnn) (Ev.bind f ?_))))
        cases c with
        | true=>exact Ev.pos rfl (Ev.now _)
        | false=>exact Ev.neg (by simp) e
      · rw [hs,hi,← j,← i]
        cases c <;> simp [hnn]
    · refine ⟨b,Ev.succ ?_,?_⟩
      · simp only [bellpullref05_Has.l0,rdT60_app,ws]
        exact Ev.pos (lt_app _ _ _) (Ev.pos (by omega) (Ev.bind hle (Ev.neg (by simpa using hnn) e)))
      · rw [hs,hi,i]
        exact ⟨.inr,fun h=>h.resolve_left (fun h=>hnn h.1)⟩
theorem refHas_ev {d:Nat} (hd:d < 1000000) {v:List Int} (hv:okV d 60 v) {set:List S60} (h:∀ l,l ∈ set → okL d l∧l.f1.length < 1000000) (hl:set.length < 1000000):∃ b,Ev (fun k=>bellpullref05_Has.f k set v) b∧(b=true ↔ InS d set v):=refHas_go hd hv set [] h hl
end Go.Proofs.Ytkonljiembcdlaa.Pure
/- Which error semilinear sets have, by the program and by the reference, in plain Lean. -/
set_option linter.unusedVariables false
set_option linter.unusedSimpArgs false
namespace Go.Proofs.Ytkonljiembcdlaa.Pure
open Go.RowKit Go.Proofs.MyWords Go.Proofs.YtkonljiembcdlaaW.PrintWords Go.Proofs.YtkonljiembcdlaaW.PrintLast Go.Proofs.YtkonljiembcdlaaW.PrintMore Go.Proofs.Ytkonljiembcdlaa.PC Go.Proofs.Ytkonljiembcdlaa.Sem
def farV (v:List Int):Bool:=v.any fun x=>decide (x < 0) || decide (20 < x)
def oddV (d:Int) (v:List Int):Bool:=(v.length:Int) != d
def longS (s:List S60):Bool:=s.any (fun l=>decide ((l.f1.length:Int) > 4)) || decide ((s.length:Int) > 8)
def wideS (s:List S60):Bool:=s.any fun l=>farV l.f0 || l.f1.any farV
def oddS (d:Int) (s:List S60):Bool:=s.any fun l=>oddV d l.f0 || l.f1.any (oddV d)
def badD (d:Int):Bool:=decide (d < 1) || decide (d > 3)
def chk (d:Int) (ss:List (List S60)):Int:=if ss.any longS=true then 3 else if (badD d || ss.any wideS)=true then 1 else if ss.any (oddS d)=true then 2 else 0
def short {α:Type} (l:List α):Prop:=l.length < 1000000000
theorem short.tail {α:Type} {x:α} {l:List α} (h:short (x :: l)):short l:=by unfold short at *;simp at h;omega
section
variable (d:Int) (lg:Bool) (ss:List (List S60)) (n2 i2:Int) (set:List S60) (n1 i1:Int)
theorem check_l2:∀ (t pre:List (List Int)) (fr od:Bool) (r:Int),short (pre ++ t) → Ev (fun k=>count_check.l1 k d lg (fr || t.any farV) (od || t.any (oddV d)) ss n2 i2 set n1 (wrap64 (i1 + 1))) r →
    Ev (fun k=>count_check.l2 k d lg fr od ss n2 i2 set n1 i1 (pre ++ t) ((pre ++ t).length:Int) (pre.length:Int)) r
  | [],pre,fr,od,r,hs,h=>by
    refine Ev.succ ?_
    simp only [count_check.l2]
    refine Ev.neg (by simp) ?_
    simpa using h
  | p :: t,pre,fr,od,r,hs,h=>by
    have ws:wrap64 ((pre.length:Int) + 1)=((pre.length + 1:Nat):Int):=wsucc (by unfold short at hs;simp at hs;omega)
    have ih:∀ fr od,Ev (fun k=>count_check.l1 k d lg (fr || t.any farV) (od || t.any (oddV d)) ss n2 i2 set n1 (wrap64 (i1 + 1))) r → Ev (fun k=>count_check.l2 k d lg fr od ss n2 i2 set n1 i1 (pre ++ p :: t) ((pre ++ p :: t).length:Int) ((pre.length + 1:Nat):Int)) r:=fun fr od h2=>by
      have:=check_l2 t (pre ++ [p]) fr od r (by rw [← app_snoc];exact hs) h2
      rw [← app_snoc,← len_snoc] at this
      exact this
    rw [List.any_cons,List.any_cons,← Bool.or_assoc,← Bool.or_assoc] at h
    refine Ev.succ ?_
    simp only [count_check.l2,rdL1_app,ws]
    refine Ev.pos (lt_app _ _ _) (Ev.pos (by omega) (Ev.pos (lt_app _ _ _) ?_))
    have inner:∀ f2,f2=(fr || farV p) → Ev (fun k=>if od=true then count_check.l2 k d lg f2 true ss n2 i2 set n1 i1 (pre ++ p :: t) ((pre ++ p :: t).length:Int) ((pre.length + 1:Nat):Int) else count_check.l2 k d lg f2 ((p.length:Int) != d) ss n2 i2 set n1 i1 (pre ++ p :: t) ((pre ++ p :: t).length:Int) ((pre.length + 1:Nat):Int)) r:=fun f2 e=>by
      subst e
      cases od with
      | true=>exact Ev.pos rfl (ih _ _ h)
      | false=>exact Ev.neg (by simp) (ih _ _ h)
    cases fr with
    | true=>exact Ev.pos rfl (inner _ rfl)
    | false =>
      refine Ev.neg (by simp) ?_
      refine Ev.bindc (x:=farV p) rfl ?_
      exact inner _ rfl
end
theorem check_l1 (d:Int) (ss:List (List S60)) (n2 i2:Int):∀ (t pre:List S60) (lg fr od:Bool) (r:Int),short (pre ++ t) → (∀ l,l ∈ t → short l.f1) →
    Ev (fun k=>count_check.l0 k d (lg || t.any (fun l=>decide ((l.f1.length:Int) > 4))) (fr || wideS t) (od || oddS d t) ss n2 (wrap64 (i2 + 1))) r →
    Ev (fun k=>count_check.l1 k d lg fr od ss n2 i2 (pre ++ t) ((pre ++ t).length:Int) (pre.length:Int)) r
  | [],pre,lg,fr,od,r,hs,hp,h=>by
    refine Ev.succ ?_
    simp only [count_check.l1]
    refine Ev.neg (by simp) ?_
    simpa [wideS,oddS] using h
  | l :: t,pre,lg,fr,od,r,hs,hp,h=>by
    have ws:wrap64 ((pre.length:Int) + 1)=((pre.length + 1:Nat):Int):=wsucc (by unfold short at hs;simp at hs;omega)
    have ih:∀ lg fr od,Ev (fun k=>count_check.l0 k d (lg || t.any (fun l=>decide ((l.f1.length:Int) > 4))) (fr || wideS t) (od || oddS d t) ss n2 (wrap64 (i2 + 1))) r → Ev (fun k=>count_check.l1 k d lg fr od ss n2 i2 (pre ++ l :: t) ((pre ++ l :: t).length:Int) ((pre.length + 1:Nat):Int)) r:=fun lg fr od h2=>by
      have:=check_l1 d ss n2 i2 t (pre ++ [l]) lg fr od r (by rw [← app_snoc];exact hs) (fun x hx=>hp x (by simp [hx])) h2
      rw [← app_snoc,← len_snoc] at this
      exact this
    have e1:wideS (l :: t)=(farV l.f0 || l.f1.any farV || wideS t):=by unfold wideS;rw [List.any_cons]
    have e2:oddS d (l :: t)=(oddV d l.f0 || l.f1.any (oddV d) || oddS d t):=by unfold oddS;rw [List.any_cons]
    rw [List.any_cons,e1,e2,← Bool.or_assoc,← Bool.or_assoc,← Bool.or_assoc,← Bool.or_assoc,← Bool.or_assoc] at h
    have s6:∀ lg fr od,Ev (fun k=>count_check.l0 k d (lg || t.any (fun l=>decide ((l.f1.length:Int) > 4))) (fr || l.f1.any farV || wideS t) (od || l.f1.any (oddV d) || oddS d t) ss n2 (wrap64 (i2 + 1))) r → Ev (fun k=>count_check.j6 k d lg fr od ss n2 i2 (pre ++ l :: t) ((pre ++ l :: t).length:Int) (pre.length:Int) l.f0 l.f1) r:=fun lg fr od h2=>by
      refine Ev.succ ?_
      simp only [count_check.j6]
      refine check_l2 d lg ss n2 i2 _ _ _ l.f1 [] fr od r (hp l (by simp)) ?_
      rw [ws]
      exact ih _ _ _ h2
    have s5:∀ lg fr od,Ev (fun k=>count_check.l0 k d (lg || t.any (fun l=>decide ((l.f1.length:Int) > 4))) (fr || l.f1.any farV || wideS t) (od || oddV d l.f0 || l.f1.any (oddV d) || oddS d t) ss n2 (wrap64 (i2 + 1))) r → Ev (fun k=>count_check.j5 k d lg fr od ss n2 i2 (pre ++ l :: t) ((pre ++ l :: t).length:Int) (pre.length:Int) l.f0 l.f1) r:=fun lg fr od h2=>by
      refine Ev.succ ?_
      simp only [count_check.j5]
      cases od with
      | true=>exact Ev.pos rfl (s6 _ _ _ (by simpa using h2))
      | false=>exact Ev.neg (by simp) (s6 _ _ _ (by simpa [oddV] using h2))
    have s4:∀ lg fr od,Ev (fun k=>count_check.l0 k d (lg || t.any (fun l=>decide ((l.f1.length:Int) > 4))) (fr || farV l.f0 || l.f1.any farV || wideS t) (od || oddV d l.f0 || l.f1.any (oddV d) || oddS d t) ss n2 (wrap64 (i2 + 1))) r → Ev (fun k=>count_check.j4 k d lg fr od ss n2 i2 (pre ++ l :: t) ((pre ++ l :: t).length:Int) (pre.length:Int) l.f0 l.f1) r:=fun lg fr od h2=>by
      refine Ev.succ ?_
      simp only [count_check.j4]
      cases fr with
      | true=>exact Ev.pos rfl (s5 _ _ _ (by simpa using h2))
      | false =>
        refine Ev.neg (by simp) ?_
        refine Ev.bindc (x:=farV l.f0) rfl ?_
        exact s5 _ _ _ (by simpa using h2)
    refine Ev.succ ?_
    simp only [count_check.l1,rdT60_app]
    refine Ev.pos (lt_app _ _ _) (Ev.pos (by omega) (Ev.pos (lt_app _ _ _) ?_))
    cases lg with
    | true=>exact Ev.pos rfl (s4 _ _ _ (by simpa using h))
    | false=>exact Ev.neg (by simp) (s4 _ _ _ (by simpa using h))
def tell (lg fr od:Bool):Int:=if lg=true then 3 else if fr=true then 1 else if od=true then 2 else 0
theorem check_l0 (d:Int):∀ (t pre:List (List S60)) (lg fr od:Bool),short (pre ++ t) → (∀ s,s ∈ t → short s∧∀ l,l ∈ s → short l.f1) →
    Ev (fun k=>count_check.l0 k d lg fr od (pre ++ t) ((pre ++ t).length:Int) (pre.length:Int)) (tell (lg || t.any longS) (fr || t.any wideS) (od || t.any (oddS d)))
  | [],pre,lg,fr,od,hs,hp=>by
    refine Ev.succ ?_
    simp only [count_check.l0]
    refine Ev.neg (by simp) ?_
    unfold tell
    cases lg
    · refine Ev.neg (by simp) ?_
      cases fr
      · refine Ev.neg (by simp) ?_
        cases od
        · exact Ev.neg (by simp) (Ev.now _)
        · exact Ev.pos rfl (Ev.now _)
      · exact Ev.pos rfl (Ev.now _)
    · exact Ev.pos rfl (Ev.now _)
  | s :: t,pre,lg,fr,od,hs,hp=>by
    have ws:wrap64 ((pre.length:Int) + 1)=((pre.length + 1:Nat):Int):=wsucc (by unfold short at hs;simp at hs;omega)
    have ih:∀ lg fr od,Ev (fun k=>count_check.l0 k d lg fr od (pre ++ s :: t) ((pre ++ s :: t).length:Int) ((pre.length + 1:Nat):Int)) (tell (lg || t.any longS) (fr || t.any wideS) (od || t.any (oddS d))):=fun lg fr od=>by
      have:=check_l0 d t (pre ++ [s]) lg fr od (by rw [← app_snoc];exact hs) (fun x hx=>hp x (by simp [hx]))
      rw [← app_snoc,← len_snoc] at this
      exact this
    have j2:∀ lg,Ev (fun k=>count_check.j2 k d lg fr od s (pre ++ s :: t) ((pre ++ s :: t).length:Int) (pre.length:Int)) (tell ((lg || s.any (fun l=>decide ((l.f1.length:Int) > 4))) || t.any longS) (fr || wideS s || t.any wideS) (od || oddS d s || t.any (oddS d))):=fun lg=>by
      refine Ev.succ ?_
      simp only [count_check.j2]
      refine check_l1 d _ _ _ s [] lg fr od _ (hp s (by simp)).1 (hp s (by simp)).2 ?_
      rw [ws]
      exact ih _ _ _
    refine Ev.succ ?_
    simp only [count_check.l0,rdL4_app]
    refine Ev.pos (lt_app _ _ _) (Ev.pos (by omega) (Ev.pos (lt_app _ _ _) ?_))
    rw [List.any_cons,List.any_cons,List.any_cons,← Bool.or_assoc,← Bool.or_assoc,← Bool.or_assoc]
    cases lg with
    | true =>
      refine Ev.pos rfl ?_
      simpa using j2 true
    | false =>
      refine Ev.neg (by simp) ?_
      have:=j2 (decide ((s.length:Int) > 8))
      rw [Bool.or_comm (decide ((s.length:Int) > 8))] at this
      rw [Bool.false_or]
      exact this
theorem check_ev (d:Int) (ss:List (List S60)) (hs:short ss) (hp:∀ s,s ∈ ss → short s∧∀ l,l ∈ s → short l.f1):Ev (fun k=>count_check.f k d ss) (chk d ss):=by
  have go:∀ fr,Ev (fun k=>count_check.j0 k d ss false fr false) (tell (ss.any longS) (fr || ss.any wideS) (ss.any (oddS d))):=fun fr=>by
    refine Ev.succ ?_
    simp only [count_check.j0]
    have:=check_l0 d ss [] false fr false hs hp
    simpa using this
  unfold count_check.f
  by_cases h:d < 1
  · have e:badD d=true:=by unfold badD;simp [h]
    refine Ev.pos h ?_
    have:=go true
    unfold chk
    rw [e]
    exact this
  · have e:badD d=decide (d > 3):=by unfold badD;simp [h]
    refine Ev.neg h ?_
    have:=go (decide (d > 3))
    unfold chk
    rw [e]
    exact this
theorem long_go:∀ (t pre:List S60),short (pre ++ t) → Ev (fun k=>bellpullref05_Long.l0 k (pre ++ t) (pre.length:Int)) (t.any (fun l=>decide ((l.f1.length:Int) > 4)) || decide (((pre ++ t).length:Int) > 8))
  | [],pre,hs=>by
    refine Ev.succ ?_
    simp only [bellpullref05_Long.l0]
    refine Ev.neg (by simp) ?_
    simp only [List.any_nil,Bool.false_or]
    exact Ev.now _
  | l :: t,pre,hs=>by
    have ws:wrap64 ((pre.length:Int) + 1)=((pre.length + 1:Nat):Int):=wsucc (by unfold short at hs;simp at hs;omega)
    have ih:=long_go t (pre ++ [l]) (by rw [← app_snoc];exact hs)
    rw [← app_snoc,← len_snoc] at ih
    refine Ev.succ ?_
    simp only [bellpullref05_Long.l0,rdT60_app,ws]
    refine Ev.pos (lt_app _ _ _) (Ev.pos (by omega) ?_)
    rw [List.any_cons]
    by_cases h:(l.f1.length:Int) > 4
    · rw [decide_eq_true h,Bool.true_or,Bool.true_or]
      exact Ev.pos h (Ev.now _)
    · rw [decide_eq_false h,Bool.false_or]
      exact Ev.neg h ih
theorem wide_go (m:Int):∀ (t pre:List Int),short (pre ++ t) → Ev (fun k=>bellpullref05_wide.l0 k (pre ++ t) m (pre.length:Int)) (t.any fun x=>decide (x < 0) || decide (m < x))
  | [],pre,hs=>by
    refine Ev.succ ?_
    simp only [bellpullref05_wide.l0]
    exact Ev.neg (by simp) (Ev.now _)
  | x :: t,pre,hs=>by
    have ws:wrap64 ((pre.length:Int) + 1)=((pre.length + 1:Nat):Int):=wsucc (by unfold short at hs;simp at hs;omega)
    have ih:=wide_go m t (pre ++ [x]) (by rw [← app_snoc];exact hs)
    rw [← app_snoc,← len_snoc] at ih
    refine Ev.succ ?_
    simp only [bellpullref05_wide.l0,rd_app,ws]
    refine Ev.pos (lt_app _ _ _) (Ev.pos (by omega) ?_)
    refine Ev.bindc (x:=!(decide (x < 0) || decide (m < x))) (by
      unfold bellpullref01_In.f
      by_cases h:x ≥ 0
      · rw [if_pos h,decide_eq_false (show ¬ x < 0 by omega),Bool.false_or]
        congr 1
        by_cases h2:x ≤ m
        · rw [decide_eq_true h2,decide_eq_false (by omega)];rfl
        · rw [decide_eq_false h2,decide_eq_true (by omega)];rfl
      · rw [if_neg h,decide_eq_true (show x < 0 by omega)];rfl) ?_
    rw [List.any_cons]
    cases hx:(decide (x < 0) || decide (m < x))
    · rw [Bool.false_or];exact Ev.pos rfl ih
    · exact Ev.neg (by simp) (Ev.now _)
theorem wide_ev (v:List Int) (hs:short v) (m:Int):Ev (fun k=>bellpullref05_wide.f k v m) (v.any fun x=>decide (x < 0) || decide (m < x)):=wide_go m v [] hs
theorem vectors_f (l:S60) (h:short l.f1):bellpullref05_vectors.f l.f0 l.f1=some (l.f0 :: l.f1):=by
  unfold bellpullref05_vectors.f short at *
  rw [Option.bind_some,if_pos (by simp;omega)]
  rfl
def shortL (l:S60):Prop:=short l.f0∧short (l.f0 :: l.f1)∧∀ p,p ∈ l.f1 → short p
def shortS (s:List S60):Prop:=short s∧∀ l,l ∈ s → shortL l
theorem Wide_l1 (set:List S60) (i:Int):∀ (t pre:List (List Int)) (r:Bool),short (pre ++ t) → (∀ p,p ∈ t → short p) → (t.any farV=false → Ev (fun k=>bellpullref05_Wide.l0 k set (wrap64 (i + 1))) r) → Ev (fun k=>bellpullref05_Wide.l1 k set i (pre ++ t) (pre.length:Int)) (t.any farV || r)
  | [],pre,r,hs,hp,h=>by
    refine Ev.succ ?_
    simp only [bellpullref05_Wide.l1]
    refine Ev.neg (by simp) ?_
    rw [List.any_nil,Bool.false_or]
    exact h rfl
  | p :: t,pre,r,hs,hp,h=>by
    have ws:wrap64 ((pre.length:Int) + 1)=((pre.length + 1:Nat):Int):=wsucc (by unfold short at hs;simp at hs;omega)
    refine Ev.succ ?_
    simp only [bellpullref05_Wide.l1,rdL1_app,ws]
    refine Ev.pos (lt_app _ _ _) (Ev.pos (by omega) (Ev.bind (wide_ev p (hp p (by simp)) 20) ?_))
    rw [List.any_cons]
    change Ev (fun k=>if farV p=true then _ else _) _
    cases hf:farV p with
    | true=>exact Ev.pos rfl (Ev.now _)
    | false =>
      have ih:=Wide_l1 set i t (pre ++ [p]) r (by rw [← app_snoc];exact hs) (fun x hx=>hp x (by simp [hx])) (fun h2=>h (by rw [List.any_cons,hf,h2];rfl))
      rw [← app_snoc,← len_snoc] at ih
      exact Ev.neg (by simp) ih
theorem Wide_l0:∀ (t pre:List S60),short (pre ++ t) → (∀ l,l ∈ t → shortL l) → Ev (fun k=>bellpullref05_Wide.l0 k (pre ++ t) (pre.length:Int)) (wideS t)
  | [],pre,hs,hp=>by
    refine Ev.succ ?_
    simp only [bellpullref05_Wide.l0]
    exact Ev.neg (by simp) (Ev.now _)
  | l :: t,pre,hs,hp=>by
    have ws:wrap64 ((pre.length:Int) + 1)=((pre.length + 1:Nat):Int):=wsucc (by unfold short at hs;simp at hs;omega)
    have ih:=Wide_l0 t (pre ++ [l]) (by rw [← app_snoc];exact hs) (fun x hx=>hp x (by simp [hx]))
    rw [← app_snoc,← len_snoc] at ih
    obtain ⟨h0,h1,h2⟩:=hp l (by simp)
    refine Ev.succ ?_
    simp only [bellpullref05_Wide.l0,rdT60_app]
    refine Ev.pos (lt_app _ _ _) (Ev.pos (by omega) (Ev.bindc (vectors_f l h1.tail) ?_))
    have:=Wide_l1 (pre ++ l :: t) (pre.length:Int) (l.f0 :: l.f1) [] (wideS t) h1 (fun p hp=>by
      rcases List.mem_cons.1 hp with rfl|hp
      · exact h0
      · exact h2 p hp) (fun _=>by rw [ws];exact ih)
    have e1:wideS (l :: t)=((l.f0 :: l.f1).any farV || wideS t):=by unfold wideS;rw [List.any_cons,List.any_cons]
    rw [e1]
    exact this
theorem Odd_l1 (d:Int) (set:List S60) (i:Int):∀ (t pre:List (List Int)) (r:Bool),short (pre ++ t) → Ev (fun k=>bellpullref05_Odd.l0 k d set (wrap64 (i + 1))) r → Ev (fun k=>bellpullref05_Odd.l1 k d set i (pre ++ t) (pre.length:Int)) (t.any (oddV d) || r)
  | [],pre,r,hs,h=>by
    refine Ev.succ ?_
    simp only [bellpullref05_Odd.l1]
    refine Ev.neg (by simp) ?_
    rw [List.any_nil,Bool.false_or]
    exact h
  | p :: t,pre,r,hs,h=>by
    have ws:wrap64 ((pre.length:Int) + 1)=((pre.length + 1:Nat):Int):=wsucc (by unfold short at hs;simp at hs;omega)
    refine Ev.succ ?_
    simp only [bellpullref05_Odd.l1,rdL1_app,ws]
    refine Ev.pos (lt_app _ _ _) (Ev.pos (by omega) ?_)
    rw [List.any_cons]
    by_cases hf:(p.length:Int)=d
    · have ih:=Odd_l1 d set i t (pre ++ [p]) r (by rw [← app_snoc];exact hs) h
      rw [← app_snoc,← len_snoc] at ih
      have:oddV d p=false:=by unfold oddV;simp [hf]
      rw [this,Bool.false_or]
      exact Ev.pos hf ih
    · have:oddV d p=true:=by unfold oddV;simp [hf]
      rw [this]
      exact Ev.neg hf (Ev.now _)
theorem Odd_l0 (d:Int):∀ (t pre:List S60),short (pre ++ t) → (∀ l,l ∈ t → shortL l) → Ev (fun k=>bellpullref05_Odd.l0 k d (pre ++ t) (pre.length:Int)) (oddS d t)
  | [],pre,hs,hp=>by
    refine Ev.succ ?_
    simp only [bellpullref05_Odd.l0]
    exact Ev.neg (by simp) (Ev.now _)
  | l :: t,pre,hs,hp=>by
    have ws:wrap64 ((pre.length:Int) + 1)=((pre.length + 1:Nat):Int):=wsucc (by unfold short at hs;simp at hs;omega)
    have ih:=Odd_l0 d t (pre ++ [l]) (by rw [← app_snoc];exact hs) (fun x hx=>hp x (by simp [hx]))
    rw [← app_snoc,← len_snoc] at ih
    obtain ⟨h0,h1,h2⟩:=hp l (by simp)
    refine Ev.succ ?_
    simp only [bellpullref05_Odd.l0,rdT60_app]
    refine Ev.pos (lt_app _ _ _) (Ev.pos (by omega) (Ev.bindc (vectors_f l h1.tail) ?_))
    have:=Odd_l1 d (pre ++ l :: t) (pre.length:Int) (l.f0 :: l.f1) [] (oddS d t) h1 (by rw [ws];exact ih)
    have e1:oddS d (l :: t)=((l.f0 :: l.f1).any (oddV d) || oddS d t):=by unfold oddS;rw [List.any_cons,List.any_cons]
    rw [e1]
    exact this
theorem inD (d:Int):bellpullref01_In.f d 1 3=some (!badD d):=by
  unfold bellpullref01_In.f badD
  by_cases h:d ≥ 1
  · rw [if_pos h,decide_eq_false (show ¬ d < 1 by omega),Bool.false_or]
    congr 1
    by_cases h2:d ≤ 3
    · rw [decide_eq_true h2,decide_eq_false (by omega)];rfl
    · rw [decide_eq_false h2,decide_eq_true (by omega)];rfl
  · rw [if_neg h,decide_eq_true (show d < 1 by omega)];rfl
theorem Check_l2 (d:Int) (hd:badD d=false):∀ (t pre:List (List S60)),short (pre ++ t) → (∀ s,s ∈ t → shortS s) → Ev (fun k=>bellpullref05_Check.l2 k d (pre ++ t) (pre.length:Int)) (if t.any (oddS d)=true then 2 else 0)
  | [],pre,hs,hp=>by
    refine Ev.succ ?_
    simp only [bellpullref05_Check.l2]
    exact Ev.neg (by simp) (Ev.now _)
  | s :: t,pre,hs,hp=>by
    have ws:wrap64 ((pre.length:Int) + 1)=((pre.length + 1:Nat):Int):=wsucc (by unfold short at hs;simp at hs;omega)
    have ih:=Check_l2 d hd t (pre ++ [s]) (by rw [← app_snoc];exact hs) (fun x hx=>hp x (by simp [hx]))
    rw [← app_snoc,← len_snoc] at ih
    have ho:Ev (fun k=>bellpullref05_Odd.f k d s) (oddS d s):=Odd_l0 d s [] (hp s (by simp)).1 (hp s (by simp)).2
    refine Ev.succ ?_
    simp only [bellpullref05_Check.l2,rdL4_app,ws]
    refine Ev.pos (lt_app _ _ _) (Ev.pos (by omega) (Ev.bind ho ?_))
    rw [List.any_cons]
    cases h:oddS d s
    · rw [Bool.false_or];exact Ev.neg (by simp) ih
    · exact Ev.pos rfl (Ev.now _)
theorem Check_l1 (d:Int) (all:List (List S60)) (r:Int) (hr:badD d=false → Ev (fun k=>bellpullref05_Check.l2 k d all 0) r):∀ (t pre:List (List S60)),all=pre ++ t → short (pre ++ t) → (∀ s,s ∈ t → shortS s) → Ev (fun k=>bellpullref05_Check.l1 k d all (pre.length:Int)) (if (badD d || t.any wideS)=true then 1 else r)
  | [],pre,ha,hs,hp=>by
    subst ha
    refine Ev.succ ?_
    simp only [bellpullref05_Check.l1]
    refine Ev.neg (by simp) (Ev.bindc (inD d) ?_)
    rw [List.any_nil,Bool.or_false]
    cases h:badD d
    · exact Ev.pos rfl (hr h)
    · exact Ev.neg (by simp) (Ev.now _)
  | s :: t,pre,ha,hs,hp=>by
    have ws:wrap64 ((pre.length:Int) + 1)=((pre.length + 1:Nat):Int):=wsucc (by unfold short at hs;simp at hs;omega)
    have ih:=Check_l1 d all r hr t (pre ++ [s]) (by rw [← app_snoc];exact ha) (by rw [← app_snoc];exact hs) (fun x hx=>hp x (by simp [hx]))
    rw [← len_snoc] at ih
    subst ha
    have hw:Ev (fun k=>bellpullref05_Wide.f k d s) (badD d || wideS s):=by
      unfold bellpullref05_Wide.f
      refine Ev.bindc (inD d) ?_
      cases h:badD d
      · rw [Bool.false_or];exact Ev.pos rfl (Wide_l0 s [] (hp s (by simp)).1 (hp s (by simp)).2)
      · exact Ev.neg (by simp) (Ev.now _)
    refine Ev.succ ?_
    simp only [bellpullref05_Check.l1,rdL4_app,ws]
    refine Ev.pos (lt_app _ _ _) (Ev.pos (by omega) (Ev.bind hw ?_))
    rw [List.any_cons]
    cases h:badD d
    · rw [h] at ih
      cases h2:wideS s
      · rw [Bool.false_or,Bool.false_or];exact Ev.neg (by simp) (by simpa using ih)
      · exact Ev.pos rfl (Ev.now _)
    · rw [Bool.true_or,Bool.true_or];exact Ev.pos rfl (Ev.now _)
theorem Check_l0 (d:Int) (all:List (List S60)) (r:Int) (hr:Ev (fun k=>bellpullref05_Check.l1 k d all 0) r):∀ (t pre:List (List S60)),all=pre ++ t → short (pre ++ t) → (∀ s,s ∈ t → shortS s) → Ev (fun k=>bellpullref05_Check.l0 k d all (pre.length:Int)) (if t.any longS=true then 3 else r)
  | [],pre,ha,hs,hp=>by
    subst ha
    refine Ev.succ ?_
    simp only [bellpullref05_Check.l0]
    exact Ev.neg (by simp) hr
  | s :: t,pre,ha,hs,hp=>by
    have ws:wrap64 ((pre.length:Int) + 1)=((pre.length + 1:Nat):Int):=wsucc (by unfold short at hs;simp at hs;omega)
    have ih:=Check_l0 d all r hr t (pre ++ [s]) (by rw [← app_snoc];exact ha) (by rw [← app_snoc];exact hs) (fun x hx=>hp x (by simp [hx]))
    rw [← len_snoc] at ih
    subst ha
    have hw:Ev (fun k=>bellpullref05_Long.f k s) (longS s):=long_go s [] (hp s (by simp)).1
    refine Ev.succ ?_
    simp only [bellpullref05_Check.l0,rdL4_app,ws]
    refine Ev.pos (lt_app _ _ _) (Ev.pos (by omega) (Ev.bind hw ?_))
    rw [List.any_cons]
    cases h2:longS s
    · rw [Bool.false_or];exact Ev.neg (by simp) ih
    · exact Ev.pos rfl (Ev.now _)
theorem refCheck_ev (d:Int) (ss:List (List S60)) (hs:short ss) (hp:∀ s,s ∈ ss → shortS s):Ev (fun k=>bellpullref05_Check.f k d ss) (chk d ss):=by
  unfold chk
  exact Check_l0 d ss _ (Check_l1 d ss _ (fun h=>Check_l2 d h ss [] hs hp) ss [] rfl hs hp) ss [] rfl hs hp
def okSet (d:Nat) (s:List S60):Prop:=s.length ≤ 8∧∀ l,l ∈ s → okV d 20 l.f0∧l.f1.length ≤ 4∧∀ p,p ∈ l.f1 → okV d 20 p
theorem farV_iff (v:List Int):farV v=false ↔ inB 20 v:=by
  have:=outside_iff v 20
  unfold farV
  rw [← Bool.not_eq_true,this]
  exact ⟨fun h=>Classical.byContradiction h,fun h h2=>h2 h⟩
theorem oddV_iff (d:Int) (v:List Int):oddV d v=false ↔ (v.length:Int)=d:=by unfold oddV;simp
theorem chk_ok {d:Int} {ss:List (List S60)}:chk d ss=0 ↔ (1 ≤ d∧d ≤ 3)∧∀ s,s ∈ ss → okSet d.toNat s:=by
  have hl:∀ s,longS s=false ↔ s.length ≤ 8∧∀ l,l ∈ s → l.f1.length ≤ 4:=fun s=>by
    unfold longS
    rw [Bool.or_eq_false_iff,← Bool.not_eq_true,List.any_eq_true,decide_eq_false_iff_not]
    constructor
    · rintro ⟨h1,h2⟩
      exact ⟨by omega,fun l hl=>Nat.le_of_not_lt (fun h=>h1 ⟨l,hl,decide_eq_true (by omega)⟩)⟩
    · rintro ⟨h1,h2⟩
      exact ⟨fun ⟨l,hl,h⟩=>by have:=h2 l hl;have:=of_decide_eq_true h;omega,by omega⟩
  have hw:∀ s,wideS s=false ↔ ∀ l,l ∈ s → inB 20 l.f0∧∀ p,p ∈ l.f1 → inB 20 p:=fun s=>by
    unfold wideS
    rw [← Bool.not_eq_true,List.any_eq_true]
    constructor
    · intro h l hl
      have:(farV l.f0 || l.f1.any farV)=false:=by
        rw [← Bool.not_eq_true];exact fun h2=>h ⟨l,hl,h2⟩
      rw [Bool.or_eq_false_iff,← Bool.not_eq_true (l.f1.any farV),List.any_eq_true] at this
      exact ⟨(farV_iff _).1 this.1,fun p hp=>(farV_iff _).1 (by rw [← Bool.not_eq_true];exact fun h2=>this.2 ⟨p,hp,h2⟩)⟩
    · rintro h ⟨l,hl,h2⟩
      rcases (Bool.or_eq_true _ _).mp h2 with h2|h2
      · rw [(farV_iff _).2 (h l hl).1] at h2;cases h2
      · obtain ⟨p,hp,h2⟩:=List.any_eq_true.1 h2
        rw [(farV_iff _).2 ((h l hl).2 p hp)] at h2;cases h2
  have ho:∀ s,oddS d s=false ↔ ∀ l,l ∈ s → (l.f0.length:Int)=d∧∀ p,p ∈ l.f1 → (p.length:Int)=d:=fun s=>by
    unfold oddS
    rw [← Bool.not_eq_true,List.any_eq_true]
    constructor
    · intro h l hl
      have:(oddV d l.f0 || l.f1.any (oddV d))=false:=by
        rw [← Bool.not_eq_true];exact fun h2=>h ⟨l,hl,h2⟩
      rw [Bool.or_eq_false_iff,← Bool.not_eq_true (l.f1.any (oddV d)),List.any_eq_true] at this
      exact ⟨(oddV_iff _ _).1 this.1,fun p hp=>(oddV_iff _ _).1 (by rw [← Bool.not_eq_true];exact fun h2=>this.2 ⟨p,hp,h2⟩)⟩
    · rintro h ⟨l,hl,h2⟩
      rcases (Bool.or_eq_true _ _).mp h2 with h2|h2
      · rw [(oddV_iff _ _).2 (h l hl).1] at h2;cases h2
      · obtain ⟨p,hp,h2⟩:=List.any_eq_true.1 h2
        rw [(oddV_iff _ _).2 ((h l hl).2 p hp)] at h2;cases h2
  have anyF:∀ (f:List S60 → Bool),ss.any f=false ↔ ∀ s,s ∈ ss → f s=false:=fun f=>by
    rw [← Bool.not_eq_true,List.any_eq_true]
    exact ⟨fun h s hs=>by rw [← Bool.not_eq_true];exact fun h2=>h ⟨s,hs,h2⟩,fun h ⟨s,hs,h2⟩=>by rw [h s hs] at h2;cases h2⟩
  have hb:badD d=false ↔ 1 ≤ d∧d ≤ 3:=by unfold badD;rw [Bool.or_eq_false_iff,decide_eq_false_iff_not,decide_eq_false_iff_not];omega
  have h0:chk d ss=0 ↔ ss.any longS=false∧badD d=false∧ss.any wideS=false∧ss.any (oddS d)=false:=by
    unfold chk
    cases ss.any longS <;> cases badD d <;> cases ss.any wideS <;> cases ss.any (oddS d) <;> simp
  rw [h0,anyF,anyF,anyF,hb]
  constructor
  · rintro ⟨h1,h2,h3,h4⟩
    refine ⟨h2,fun s hs=>⟨((hl s).1 (h1 s hs)).1,fun l hls=>?_⟩⟩
    have q3:=(hw s).1 (h3 s hs) l hls
    have q4:=(ho s).1 (h4 s hs) l hls
    exact ⟨⟨by omega,q3.1⟩,((hl s).1 (h1 s hs)).2 l hls,fun p hp=>⟨by have:=q4.2 p hp;omega,q3.2 p hp⟩⟩
  · rintro ⟨h1,h2⟩
    refine ⟨fun s hs=>(hl s).2 ⟨(h2 s hs).1,fun l hls=>((h2 s hs).2 l hls).2.1⟩,h1,fun s hs=>(hw s).2 (fun l hls=>?_),fun s hs=>(ho s).2 (fun l hls=>?_)⟩
    · have:=(h2 s hs).2 l hls
      exact ⟨this.1.2,fun p hp=>(this.2.2 p hp).2⟩
    · have:=(h2 s hs).2 l hls
      exact ⟨by have:=this.1.1;omega,fun p hp=>by have:=(this.2.2 p hp).1;omega⟩
theorem chk_range (d:Int) (ss:List (List S60)):chk d ss=0 ∨ chk d ss=1 ∨ chk d ss=2 ∨ chk d ss=3:=by
  unfold chk
  cases ss.any longS <;> cases badD d <;> cases ss.any wideS <;> cases ss.any (oddS d) <;> simp
theorem okSet.shorts {d:Nat} (hd:d ≤ 3) {s:List S60} (h:okSet d s):shortS s:=by
  refine ⟨by have:=h.1;unfold short;omega,fun l hl=>?_⟩
  have:=h.2 l hl
  exact ⟨by have:=this.1.1;unfold short;omega,by have:=this.2.1;unfold short;simp;omega,fun p hp=>by have:=(this.2.2 p hp).1;unfold short;omega⟩
theorem okSet.okL {d:Nat} {s:List S60} (h:okSet d s):∀ l,l ∈ s → okL d l:=fun l hl=>by
  have:=h.2 l hl
  exact ⟨this.1.mono (by decide),fun p hp=>(this.2.2 p hp).mono (by decide),by omega⟩
end Go.Proofs.Ytkonljiembcdlaa.Pure
/- The statements' measure of a long search has a value, in plain Lean. -/
set_option linter.unusedVariables false
set_option linter.unusedSimpArgs false
namespace Go.Proofs.Ytkonljiembcdlaa.Pure
open Go.RowKit Go.Proofs.MyWords Go.Proofs.YtkonljiembcdlaaW.PrintWords Go.Proofs.YtkonljiembcdlaaW.PrintLast Go.Proofs.YtkonljiembcdlaaW.PrintMore Go.Proofs.Ytkonljiembcdlaa.PC Go.Proofs.Ytkonljiembcdlaa.Sem
theorem heavy_l1 (set:List S60) (i:Int) (l:S60) (h0:0 ≤ i) (h1:i < (set.length:Int)) (hr:rd_T60 set i=l) (hl:∀ p,p ∈ l.f1 → inB 1000000 p∧p.length < 1000000) (hlen:l.f1.length < 1000000) (hn:∃ b,Ev (fun k=>bellpulllaw05_heavy.l0 k set (wrap64 (i + 1))) b) :
    ∀ (t pre:List (List Int)) (m:Int),l.f1=pre ++ t → ∃ b,Ev (fun k=>bellpulllaw05_heavy.l1 k set i m (pre.length:Int)) b
  | [],pre,m,e=>by
    have hl1:l.f1.length=pre.length:=by rw [e];simp
    by_cases hm:m > 2
    · refine ⟨true,Ev.succ ?_⟩
      simp only [bellpulllaw05_heavy.l1,hr]
      exact Ev.pos h0 (Ev.pos h1 (Ev.neg (by omega) (Ev.pos hm (Ev.now _))))
    · obtain ⟨b,hb⟩:=hn
      refine ⟨b,Ev.succ ?_⟩
      simp only [bellpulllaw05_heavy.l1,hr]
      exact Ev.pos h0 (Ev.pos h1 (Ev.neg (by omega) (Ev.neg hm hb)))
  | p :: t,pre,m,e=>by
    have hl1:l.f1.length=pre.length + (t.length + 1):=by rw [e];simp
    have hp:=hl p (by rw [e];simp)
    have ih:=fun m=>heavy_l1 set i l h0 h1 hr hl hlen hn t (pre ++ [p]) m (by rw [e];simp)
    rw [← len_snoc] at ih
    have hrd:rd_L1 l.f1 (pre.length:Int)=p:=by rw [e];exact rdL1_app _ _ _
    have tp:=refTotal_ev hp.1 hp.2
    have ws:wrap64 ((pre.length:Int) + 1)=((pre.length + 1:Nat):Int):=wsucc (by omega)
    by_cases q1:p.sum > 0
    · by_cases q2:p.sum < 3
      · obtain ⟨b,hb⟩:=ih (wrap64 (m + 1))
        refine ⟨b,Ev.succ ?_⟩
        simp only [bellpulllaw05_heavy.l1,hr,hrd,ws]
        exact Ev.pos h0 (Ev.pos h1 (Ev.pos (by omega) (Ev.pos (by omega) (Ev.bind tp (Ev.pos q1 (Ev.pos q2 hb))))))
      · obtain ⟨b,hb⟩:=ih m
        refine ⟨b,Ev.succ ?_⟩
        simp only [bellpulllaw05_heavy.l1,hr,hrd,ws]
        exact Ev.pos h0 (Ev.pos h1 (Ev.pos (by omega) (Ev.pos (by omega) (Ev.bind tp (Ev.pos q1 (Ev.neg q2 hb))))))
    · obtain ⟨b,hb⟩:=ih m
      refine ⟨b,Ev.succ ?_⟩
      simp only [bellpulllaw05_heavy.l1,hr,hrd,ws]
      exact Ev.pos h0 (Ev.pos h1 (Ev.pos (by omega) (Ev.pos (by omega) (Ev.bind tp (Ev.neg q1 hb)))))
theorem heavy_l0 (hd:Nat):∀ (t pre:List S60),(pre ++ t).length < 1000000 → (∀ l,l ∈ t → l.f1.length < 1000000∧∀ p,p ∈ l.f1 → inB 1000000 p∧p.length < 1000000) → ∃ b,Ev (fun k=>bellpulllaw05_heavy.l0 k (pre ++ t) (pre.length:Int)) b
  | [],pre,hs,h=>by
    refine ⟨false,Ev.succ ?_⟩
    simp only [bellpulllaw05_heavy.l0]
    exact Ev.neg (by simp) (Ev.now _)
  | l :: t,pre,hs,h=>by
    have ih:=heavy_l0 hd t (pre ++ [l]) (by rw [← app_snoc];exact hs) (fun x hx=>h x (by simp [hx]))
    rw [← app_snoc,← len_snoc] at ih
    have hl:=h l (by simp)
    have ws:wrap64 ((pre.length:Int) + 1)=((pre.length + 1:Nat):Int):=wsucc (by simp at hs;omega)
    obtain ⟨b,hb⟩:=heavy_l1 (pre ++ l :: t) (pre.length:Int) l (by omega) (lt_app _ _ _) (rdT60_app _ _ _) hl.2 hl.1 (by rw [ws];exact ih) l.f1 [] 0 rfl
    refine ⟨b,Ev.succ ?_⟩
    simp only [bellpulllaw05_heavy.l0]
    exact Ev.pos (lt_app _ _ _) hb
theorem heavy_ev {d:Nat} (hd:d ≤ 3) {set:List S60} (h:okSet d set):∃ b,Ev (fun k=>bellpulllaw05_heavy.f k set) b :=
  heavy_l0 d set [] (by have:=h.1;simp;omega) (fun l hl=>by
    have:=h.2 l hl
    exact ⟨by omega,fun p hp=>⟨((this.2.2 p hp).mono (n:=1000000) (by decide)).2,by have:=(this.2.2 p hp).1;omega⟩⟩)
end Go.Proofs.Ytkonljiembcdlaa.Pure
/- A vector's total, as the program takes it, in plain Lean. -/
set_option linter.unusedVariables false
set_option linter.unusedSimpArgs false
namespace Go.Proofs.Ytkonljiembcdlaa.Pure
open Go.RowKit Go.Proofs.MyWords Go.Proofs.YtkonljiembcdlaaW.PrintWords Go.Proofs.YtkonljiembcdlaaW.PrintLast Go.Proofs.YtkonljiembcdlaaW.PrintMore Go.Proofs.Ytkonljiembcdlaa.PC Go.Proofs.Ytkonljiembcdlaa.Sem
theorem ctotal_go:∀ (v2 v1:List Int) (s:Int),inB 1000000 v2 → 0 ≤ s → s ≤ 1000000 * v1.length → (v1 ++ v2).length < 1000000 → Ev (fun k=>count_total.l0 k s (v1 ++ v2) ((v1 ++ v2).length:Int) (v1.length:Int)) (s + v2.sum)
  | [],v1,s,_,h0,h1,hl=>by
    refine Ev.succ ?_
    simp only [count_total.l0]
    refine Ev.neg (by simp) ?_
    simp
    exact Ev.now _
  | x :: v2,v1,s,hb,h0,h1,hl=>by
    have bx:=hb x (by simp)
    have ih:=ctotal_go v2 (v1 ++ [x]) (s + x) (fun z hz=>hb z (by simp [hz])) (by omega) (by simp;omega) (by simp at hl ⊢;omega)
    rw [← app_snoc,← len_snoc] at ih
    refine Ev.succ ?_
    simp only [count_total.l0]
    refine Ev.pos (by simp;omega) (Ev.pos (by omega) (Ev.pos (by simp;omega) ?_))
    have hl2:v1.length < 1000000:=by simp at hl;omega
    rw [rd_app,wrap_id (x:=s + x) (by omega) (by omega),wsucc (by omega),List.sum_cons,← Int.add_assoc]
    exact ih
theorem ctotal_ev {v:List Int} (hv:inB 1000000 v) (hl:v.length < 1000000):Ev (fun k=>count_total.f k v) v.sum:=by
  have:=ctotal_go v [] 0 hv (by omega) (by simp) hl
  simp only [List.nil_append,List.length_nil,Int.zero_add] at this
  exact this
end Go.Proofs.Ytkonljiembcdlaa.Pure
/- count.Least and count.Count in plain Lean. -/
set_option linter.unusedVariables false
set_option linter.unusedSimpArgs false
namespace Go.Proofs.Ytkonljiembcdlaa.Pure
open Go.RowKit Go.Proofs.MyWords Go.Proofs.YtkonljiembcdlaaW.PrintWords Go.Proofs.YtkonljiembcdlaaW.PrintLast Go.Proofs.YtkonljiembcdlaaW.PrintMore Go.Proofs.Ytkonljiembcdlaa.PC Go.Proofs.Ytkonljiembcdlaa.Sem
def cmpL:List Int → List Int → Int
  | [],[]=>0
  | [],_ :: _=>-1
  | _ :: _,[]=>1
  | a :: s,b :: t=>if a < b then -1 else if a > b then 1 else cmpL s t
theorem cmp_f (a b:Int):cmp_Compare_int.f a b=some (if a < b then -1 else if a > b then 1 else 0):=by
  unfold cmp_Compare_int.f cmp_isNaN_int.f
  simp only [bne_self_eq_false,Option.bind_some,Bool.false_eq_true,if_false]
  by_cases h:a < b
  · simp [h]
  · by_cases h2:a > b <;> simp [h,h2]
theorem cmp_go:∀ (s t v w:List Int),v.length=w.length → (v ++ s).length < 1000000 → (w ++ t).length < 1000000 → Ev (fun k=>slices_Compare_int_int.l0 k (v ++ s) (w ++ t) (v ++ s) ((v ++ s).length:Int) (v.length:Int)) (cmpL s t)
  | [],t,v,w,hl,_,_=>by
    refine Ev.succ ?_
    simp only [slices_Compare_int_int.l0]
    refine Ev.neg (by simp) ?_
    cases t with
    | nil=>exact Ev.neg (by simp;omega) (Ev.now _)
    | cons b t=>exact Ev.pos (by simp;omega) (Ev.now _)
  | a :: s,t,v,w,hl,h1,h2=>by
    refine Ev.succ ?_
    simp only [slices_Compare_int_int.l0]
    refine Ev.pos (by simp;omega) (Ev.pos (by omega) (Ev.pos (by simp;omega) ?_))
    cases t with
    | nil=>exact Ev.pos (by simp;omega) (Ev.now _)
    | cons b t =>
      refine Ev.neg (by simp;omega) (Ev.pos (by simp;omega) ?_)
      have e2:rd (w ++ b :: t) (v.length:Int)=b:=by rw [hl];exact rd_app _ _ _
      rw [rd_app,e2]
      refine Ev.bindc (cmp_f a b) ?_
      have hv:v.length < 1000000:=by simp at h1;omega
      have ih:=cmp_go s t (v ++ [a]) (w ++ [b]) (by simp;omega) (by simpa using h1) (by simpa using h2)
      rw [← app_snoc,← app_snoc,← len_snoc] at ih
      rw [wsucc (show v.length < 4611686018427387904 by omega)]
      simp only [cmpL]
      by_cases c1:a < b
      · rw [if_pos c1,if_pos c1];exact Ev.neg (by decide) (Ev.now _)
      · rw [if_neg c1,if_neg c1]
        by_cases c2:a > b
        · rw [if_pos c2,if_pos c2];exact Ev.neg (by decide) (Ev.now _)
        · rw [if_neg c2,if_neg c2];exact Ev.pos rfl ih
theorem cmp_ev {s t:List Int} (h1:s.length < 1000000) (h2:t.length < 1000000):Ev (fun k=>slices_Compare_int_int.f k s t) (cmpL s t):=cmp_go s t [] [] rfl h1 h2
def better (a b:List Int):Bool:=decide (a.sum < b.sum) || (decide (a.sum=b.sum) && decide (cmpL a b < 0))
def leastB:List S60 → Option (List Int) → Option (List Int)
  | [],b=>b
  | l :: t,none=>leastB t (some l.f0)
  | l :: t,some b=>if better l.f0 b=true then leastB t (some l.f0) else leastB t (some b)
def fineV (v:List Int):Prop:=inB 1000000 v∧v.length < 1000000
theorem leastGo_ev:∀ (x:List S60) (b:Option (List Int)),(∀ l,l ∈ x → fineV l.f0) → (∀ v,b=some v → fineV v) → Ev (fun k=>leastGo k x b) (leastB x b)
  | [],b,_,_=>Ev.now _
  | l :: t,none,hx,_=>leastGo_ev t (some l.f0) (fun m hm=>hx m (by simp [hm])) (fun v hv=>by cases hv;exact hx l (by simp))
  | l :: t,some b,hx,hb=>by
    have fl:=hx l (by simp)
    have fb:=hb b rfl
    have ht:∀ m,m ∈ t → fineV m.f0:=fun m hm=>hx m (by simp [hm])
    have i1:=leastGo_ev t (some l.f0) ht (fun v hv=>by cases hv;exact fl)
    have i2:=leastGo_ev t (some b) ht (fun v hv=>by cases hv;exact fb)
    simp only [leastGo,leastB]
    refine Ev.bind (ctotal_ev fl.1 fl.2) (Ev.bind (ctotal_ev fb.1 fb.2) ?_)
    by_cases h1:l.f0.sum < b.sum
    · rw [if_pos (show better l.f0 b=true by simp [better,h1])];exact Ev.pos h1 i1
    · refine Ev.neg h1 ?_
      by_cases h2:l.f0.sum=b.sum
      · refine Ev.pos h2 (Ev.bind (cmp_ev fl.2 fb.2) ?_)
        by_cases h3:cmpL l.f0 b < 0
        · rw [if_pos (show better l.f0 b=true by simp [better,h2,h3])];exact Ev.pos h3 i1
        · rw [if_neg (show ¬ better l.f0 b=true by simp [better,h2,h3])];exact Ev.neg h3 i2
      · rw [if_neg (show ¬ better l.f0 b=true by simp [better,h1,h2])];exact Ev.neg h2 i2
theorem leastB_some:∀ (x:List S60) (b:List Int),∃ v,leastB x (some b)=some v∧(v=b ∨ ∃ l,l ∈ x∧l.f0=v)∧v.sum ≤ b.sum∧∀ l,l ∈ x → v.sum ≤ l.f0.sum
  | [],b=>⟨b,rfl,.inl rfl,by omega,fun l hl=>by simp at hl⟩
  | l :: t,b=>by
    simp only [leastB]
    by_cases h:better l.f0 b=true
    · rw [if_pos h]
      obtain ⟨v,e,i,s1,s2⟩:=leastB_some t l.f0
      have:l.f0.sum ≤ b.sum:=by
        simp only [better,Bool.or_eq_true,decide_eq_true_eq,Bool.and_eq_true] at h;omega
      refine ⟨v,e,.inr ?_,by omega,fun m hm=>?_⟩
      · rcases i with rfl|⟨m,hm,q⟩
        · exact ⟨l,by simp,rfl⟩
        · exact ⟨m,by simp [hm],q⟩
      · rcases List.mem_cons.1 hm with rfl|hm
        · exact s1
        · exact s2 m hm
    · rw [if_neg h]
      obtain ⟨v,e,i,s1,s2⟩:=leastB_some t b
      have:b.sum ≤ l.f0.sum:=by
        simp only [better,Bool.or_eq_true,decide_eq_true_eq,Bool.and_eq_true] at h;omega
      refine ⟨v,e,?_,s1,fun m hm=>?_⟩
      · rcases i with rfl|⟨m,hm,q⟩
        · exact .inl rfl
        · exact .inr ⟨m,by simp [hm],q⟩
      · rcases List.mem_cons.1 hm with rfl|hm
        · omega
        · exact s2 m hm
theorem leastB_none {x:List S60} (hx:x ≠ []):∃ v,leastB x none=some v∧(∃ l,l ∈ x∧l.f0=v)∧∀ l,l ∈ x → v.sum ≤ l.f0.sum:=by
  cases x with
  | nil=>exact absurd rfl hx
  | cons l t =>
    obtain ⟨v,e,i,s1,s2⟩:=leastB_some t l.f0
    refine ⟨v,e,?_,fun m hm=>?_⟩
    · rcases i with rfl|⟨m,hm,q⟩
      · exact ⟨l,by simp,rfl⟩
      · exact ⟨m,by simp [hm],q⟩
    · rcases List.mem_cons.1 hm with rfl|hm
      · exact s1
      · exact s2 m hm
section
variable {d:Nat} (h1:1 ≤ d) (hd:d ≤ 3) {x:List S60} (hx:okSet d x)
include h1 hd hx
theorem check_ok:Ev (fun k=>count_check.f k (d:Int) [x]) 0:=by
  have hs:=hx.shorts hd
  have:=check_ev (d:Int) [x] (by unfold short;simp) (fun t ht=>by
    obtain rfl:t=x:=by simpa using ht
    exact ⟨hs.1,fun l hl=>(hs.2 l hl).2.1.tail⟩)
  rw [chk_ok.2 ⟨by omega,fun t ht=>by
    obtain rfl:t=x:=by simpa using ht
    exact hx⟩] at this
  exact this
theorem Least_ev:Ev (fun k=>count_Least.f k (d:Int) x) (match leastB x none with|none=>([],5)|some v=>(v,0)):=by
  unfold count_Least.f
  refine Ev.bind (check_ok h1 hd hx) (Ev.pos rfl (Ev.pos ?_ ?_))
  · refine List.all_eq_true.2 fun l hl=>?_
    have:=(hx.2 l hl).1.1
    simp;omega
  · refine Ev.bind (leastGo_ev x none (fun l hl=>⟨((hx.2 l hl).1.mono (n:=1000000) (by decide)).2,by have:=(hx.2 l hl).1.1;omega⟩) (fun v hv=>by cases hv)) ?_
    cases e:leastB x none with
    | none=>exact Ev.now _
    | some v =>
      have hl:v.length ≤ 5000000:=by
        by_cases h0:x=[]
        · subst h0;cases e
        · obtain ⟨w,e2,⟨l,hl,q⟩,_⟩:=leastB_none h0
          rw [e] at e2;cases e2
          have:=(hx.2 l hl).1.1
          rw [← q];omega
      show Ev (fun k=>(slices_Clone_int_int_84.f k v).bind fun v=>some (v,0)) (v,0)
      unfold slices_Clone_int_int_84.f
      rw [if_pos hl]
      exact Ev.now _
end
theorem mem_vecs:∀ (d s:Nat) (pre v:List Int),v ∈ vecs d s pre ↔ ∃ u,v=pre ++ u∧u.length=d + 1∧nnV u∧u.sum=(s:Int)
  | 0,s,pre,v=>by
    simp only [vecs,List.mem_singleton]
    constructor
    · rintro rfl
      exact ⟨[(s:Int)],rfl,rfl,fun z hz=>by simp at hz;omega,by simp⟩
    · rintro ⟨u,rfl,h1,h2,h3⟩
      match u,h1 with
      | [z],_=>simp at h3;rw [h3]
  | d + 1,s,pre,v=>by
    simp only [vecs,List.mem_flatMap,List.mem_range]
    constructor
    · rintro ⟨z,hz,hv⟩
      obtain ⟨u,rfl,q1,q2,q3⟩:=(mem_vecs d (s - z) (pre ++ [(z:Int)]) v).1 hv
      refine ⟨(z:Int) :: u,by simp,by simp [q1],fun y hy=>?_,by rw [List.sum_cons,q3];omega⟩
      rcases List.mem_cons.1 hy with rfl|hy
      · omega
      · exact q2 y hy
    · rintro ⟨u,rfl,q1,q2,q3⟩
      match u,q1 with
      | z :: u,q1 =>
        have z0:=q2 z (by simp)
        have u0:=sum_nn (v:=u) (fun y hy=>q2 y (by simp [hy]))
        rw [List.sum_cons] at q3
        refine ⟨z.toNat,by omega,(mem_vecs d (s - z.toNat) _ _).2 ⟨u,?_,by simpa using q1,fun y hy=>q2 y (by simp [hy]),by omega⟩⟩
        rw [Int.toNat_of_nonneg z0,List.append_assoc];rfl
open Classical in
noncomputable def cntV (d:Nat) (set:List S60) (l:List (List Int)):Int:=((l.filter fun v=>decide (InS d set v)).length:Int)
open Classical in
theorem countGo_ev {d:Nat} (hd:d ≤ 3) {set:List S60} (hs:okSet d set):∀ l:List (List Int),(∀ v,v ∈ l → okV d 60 v) → Ev (fun k=>count_Count.go k set l) (cntV d set l)
  | [],_=>Ev.now _
  | v :: r,h=>by
    obtain ⟨b,e,i⟩:=has_ev (by omega) (h v (by simp)) hs.okL
    simp only [count_Count.go]
    refine Ev.bind e (Ev.bind (countGo_ev hd hs r (fun w hw=>h w (by simp [hw]))) ?_)
    have:cntV d set (v :: r)=cntV d set r + if b=true then 1 else 0:=by
      unfold cntV
      by_cases hb:InS d set v
      · rw [i.2 hb,List.filter_cons_of_pos (by simpa using hb)];simp
      · have:b=false:=by cases b;rfl;exact absurd (i.1 rfl) hb
        rw [this,List.filter_cons_of_neg (by simpa using hb)];simp
    rw [this]
    exact Ev.now _
theorem Count_ev {d:Nat} (h1:1 ≤ d) (hd:d ≤ 3) {set:List S60} (hs:okSet d set) {n:Nat} (hn:n ≤ 20):Ev (fun k=>count_Count.f k (d:Int) set (n:Int)) (wrap64 (cntV d set (vecs (d - 1) n [])),0):=by
  have hb:Ev (fun k=>count_bounded.f k (n:Int) (d:Int) [set]) 0:=by
    unfold count_bounded.f
    exact Ev.bind (check_ok h1 hd hs) (Ev.neg (by decide) (Ev.neg (by omega) (Ev.neg (by omega) (Ev.now _))))
  unfold count_Count.f
  rw [show ((d:Int) - 1).toNat=d - 1 by omega,Int.toNat_natCast]
  refine Ev.bind hb (Ev.pos rfl (Ev.pos ⟨by omega,by omega,by omega,by omega⟩ (Ev.bind (countGo_ev hd hs _ fun v hv=>?_) (Ev.now _))))
  obtain ⟨u,rfl,q1,q2,q3⟩:=(mem_vecs _ _ _ _).1 hv
  exact ⟨by omega,fun z hz=>⟨q2 z hz,by have:=mem_le_sum q2 z hz;omega⟩⟩
end Go.Proofs.Ytkonljiembcdlaa.Pure
namespace Go.Proofs.Ytkonljiembcdlaa.PC
open Go.Proofs.MyWords Go.RowKit Go.Proofs.YtkonljiembcdlaaW.PrintWords Go.Proofs.YtkonljiembcdlaaW.PrintLast Go.Proofs.YtkonljiembcdlaaW.PrintMore
attribute [local go_sem] max2_int min2_int max_two min_two max_three min_three max_four min_four   -- for this text's walks alone
set_option linter.unusedVariables false
set_option linter.unusedSimpArgs false
attribute [local go_sem] eqGuard_slices eqlnil23 neqnil23 eqlnil58 neqnil58
end Go.Proofs.Ytkonljiembcdlaa.PC
/- What the statements cut off, in plain Lean. -/
set_option linter.unusedVariables false
set_option linter.unusedSimpArgs false
namespace Go.Proofs.Ytkonljiembcdlaa.Pure
open Go.RowKit Go.Proofs.MyWords Go.Proofs.YtkonljiembcdlaaW.PrintWords Go.Proofs.YtkonljiembcdlaaW.PrintLast Go.Proofs.YtkonljiembcdlaaW.PrintMore Go.Proofs.Ytkonljiembcdlaa.PC Go.Proofs.Ytkonljiembcdlaa.Sem
theorem cut_f (v:List Int):bellpulllaw05_cut.f v=some (v.take 4):=by
  unfold bellpulllaw05_cut.f mn
  rw [Option.bind_some]
  by_cases h:(4:Int) < (v.length:Int)
  · rw [if_pos h,if_pos (by omega),if_pos (by omega),Option.bind_some,if_pos (by simp;omega)]
    rfl
  · rw [if_neg h,if_pos (by omega),if_pos (by omega),Option.bind_some,Int.toNat_natCast,List.take_length,if_pos (by simp;omega),List.take_of_length_le (by omega)]
    rfl
end Go.Proofs.Ytkonljiembcdlaa.Pure
/- What the statements cut off of semilinear sets, in plain Lean. -/
set_option linter.unusedVariables false
set_option linter.unusedSimpArgs false
namespace Go.Proofs.Ytkonljiembcdlaa.Pure
open Go.RowKit Go.Proofs.MyWords Go.Proofs.YtkonljiembcdlaaW.PrintWords Go.Proofs.YtkonljiembcdlaaW.PrintLast Go.Proofs.YtkonljiembcdlaaW.PrintMore Go.Proofs.Ytkonljiembcdlaa.PC Go.Proofs.Ytkonljiembcdlaa.Sem
def cutL (l:S60):S60:=⟨l.f0.take 4,(l.f1.take 5).map (·.take 4)⟩
theorem few_l1 (set:List S60) (i:Int) (l:S60) (h0:0 ≤ i) (h1:i < (set.length:Int)) (hr:rd_T60 set i=l) (o:List S60) (ho:o.length < 1000000) (b:List Int) (r:List S60) :
    ∀ (n:Nat) (t pre:List (List Int)) (acc:List (List Int)),5 - pre.length=n → l.f1=pre ++ t → acc.length=pre.length → pre.length ≤ 5 → Ev (fun k=>bellpulllaw05_few.l0 k set (o ++ [⟨b,acc ++ (t.take n).map (·.take 4)⟩]) (wrap64 (i + 1))) r → Ev (fun k=>bellpulllaw05_few.l1 k set o i (pre.length:Int) b acc) r
  | 0,t,pre,acc,hn,e,ha,hp,h=>by
    refine Ev.succ ?_
    simp only [bellpulllaw05_few.l1,hr]
    rw [List.take_zero,List.map_nil,List.append_nil] at h
    refine Ev.pos h0 (Ev.pos h1 ?_)
    by_cases q:(pre.length:Int) < (l.f1.length:Int)
    · exact Ev.pos q (Ev.neg (by omega) (Ev.pos (by omega) h))
    · exact Ev.neg q (Ev.pos (by omega) h)
  | n + 1,[],pre,acc,hn,e,ha,hp,h=>by
    have hl1:l.f1.length=pre.length:=by rw [e];simp
    refine Ev.succ ?_
    simp only [bellpulllaw05_few.l1,hr]
    rw [List.take_nil,List.map_nil,List.append_nil] at h
    exact Ev.pos h0 (Ev.pos h1 (Ev.neg (by omega) (Ev.pos (by omega) h)))
  | n + 1,p :: t,pre,acc,hn,e,ha,hp,h=>by
    have hl1:l.f1.length=pre.length + (t.length + 1):=by rw [e];simp
    have hrd:rd_L1 l.f1 (pre.length:Int)=p:=by rw [e];exact rdL1_app _ _ _
    have ih:=few_l1 set i l h0 h1 hr o ho b r n t (pre ++ [p]) (acc ++ [p.take 4]) (by simp;omega) (by rw [e];simp) (by simp [ha]) (by simp;omega) (by
      rw [List.append_assoc];exact h)
    rw [← len_snoc] at ih
    refine Ev.succ ?_
    simp only [bellpulllaw05_few.l1,hr,hrd,wsucc (show pre.length < 4611686018427387904 by omega)]
    exact Ev.pos h0 (Ev.pos h1 (Ev.pos (by omega) (Ev.pos (by omega) (Ev.pos (by omega) (Ev.bindc (cut_f p) (Ev.pos (by omega) ih))))))
theorem few_l0:∀ (n:Nat) (t pre o:List S60),9 - pre.length=n → pre.length ≤ 9 → o.length=pre.length → Ev (fun k=>bellpulllaw05_few.l0 k (pre ++ t) o (pre.length:Int)) (o ++ (t.take n).map cutL):=by
  have stop:∀ (set o:List S60) (i:Int),Ev (fun k=>bellpulllaw05_few.j1 k set o i false) o:=fun set o i=>by
    refine Ev.succ ?_
    simp only [bellpulllaw05_few.j1]
    exact Ev.neg (by simp) (Ev.now _)
  intro n
  induction n with
  | zero =>
    intro t pre o hn hp ho
    rw [List.take_zero,List.map_nil,List.append_nil]
    refine Ev.succ ?_
    simp only [bellpulllaw05_few.l0]
    have hd:decide ((pre.length:Int) ≤ 8)=false:=decide_eq_false (by omega)
    by_cases q:(pre.length:Int) < ((pre ++ t).length:Int)
    · refine Ev.pos q ?_
      rw [hd];exact stop _ _ _
    · exact Ev.neg q (stop _ _ _)
  | succ n ih =>
    intro t pre o hn hp ho
    match t with
    | [] =>
      simp only [List.take_nil,List.map_nil,List.append_nil]
      refine Ev.succ ?_
      simp only [bellpulllaw05_few.l0]
      exact Ev.neg (by simp) (stop _ _ _)
    | l :: t =>
      have hd:decide ((pre.length:Int) ≤ 8)=true:=decide_eq_true (by omega)
      have ih:=ih t (pre ++ [l]) (o ++ [cutL l]) (by simp;omega) (by simp;omega) (by simp [ho])
      rw [← app_snoc,← len_snoc,List.append_assoc] at ih
      refine Ev.succ ?_
      simp only [bellpulllaw05_few.l0,hd]
      refine Ev.pos (lt_app _ _ _) (Ev.succ ?_)
      simp only [bellpulllaw05_few.j1,rdT60_app]
      refine Ev.pos trivial (Ev.pos (by omega) (Ev.pos (lt_app _ _ _) (Ev.bindc (cut_f l.f0) ?_)))
      refine few_l1 (pre ++ l :: t) (pre.length:Int) l (by omega) (lt_app _ _ _) (rdT60_app _ _ _) o (by omega) _ _ 5 l.f1 [] [] rfl rfl rfl (by simp) ?_
      rw [wsucc (by omega),List.nil_append]
      have ho:o ++ [({ f0:=l.f0.take 4,f1:=(l.f1.take 5).map (·.take 4) }:S60)]=o ++ [cutL l]:=rfl
      rw [ho]
      exact ih
def fewL (set:List S60):List S60:=(set.take 9).map cutL
theorem few_ev (set:List S60):Ev (fun k=>bellpulllaw05_few.f k set) (fewL set):=few_l0 9 set [] [] rfl (by simp) rfl
theorem few_short (set:List S60):shortS (fewL set):=by
  unfold fewL
  refine ⟨by unfold short;simp;omega,fun l hl=>?_⟩
  obtain ⟨x,_,rfl⟩:=List.mem_map.1 hl
  refine ⟨by unfold short cutL;simp;omega,by unfold short cutL;simp;omega,fun p hp=>?_⟩
  obtain ⟨y,_,rfl⟩:=List.mem_map.1 hp
  unfold short;simp;omega
theorem check1 (d:Int) {s:List S60} (h:shortS s):Ev (fun k=>count_check.f k d [s]) (chk d [s]):=check_ev d [s] (by unfold short;simp) (fun t ht=>by
  obtain rfl:t=s:=by simpa using ht
  exact ⟨h.1,fun l hl=>(h.2 l hl).2.1.tail⟩)
end Go.Proofs.Ytkonljiembcdlaa.Pure
/- All vectors of a sum, as the reference lists them, in plain Lean. -/
set_option linter.unusedVariables false
set_option linter.unusedSimpArgs false
namespace Go.Proofs.Ytkonljiembcdlaa.Pure
open Go.RowKit Go.Proofs.MyWords Go.Proofs.YtkonljiembcdlaaW.PrintWords Go.Proofs.YtkonljiembcdlaaW.PrintLast Go.Proofs.YtkonljiembcdlaaW.PrintMore Go.Proofs.Ytkonljiembcdlaa.PC Go.Proofs.Ytkonljiembcdlaa.Sem
def allL:Nat → Nat → List (List Int)
  | 0,n=>[[(n:Int)]]
  | d + 1,n=>(List.range (n + 1)).flatMap fun v=>(allL d (n - v)).map fun r=>(v:Int) :: r
theorem allL_len:∀ (d n:Nat),d ≤ 2 → n ≤ 60 → (allL d n).length ≤ 4000
  | 0,n,_,_=>by simp [allL]
  | 1,n,_,hn=>by
    have:∀ l:List Nat,(l.flatMap fun v=>(allL 0 (n - v)).map fun r=>(v:Int) :: r).length=l.length:=fun l=>by
      induction l with
      | nil=>rfl
      | cons a l ih=>rw [List.flatMap_cons,List.length_append,ih];simp [allL];omega
    rw [allL,this];simp;omega
  | 2,n,_,hn=>by
    have h1:∀ k,k ≤ 60 → (allL 1 k).length ≤ 61:=fun k hk=>by
      have:∀ l:List Nat,(l.flatMap fun v=>(allL 0 (k - v)).map fun r=>(v:Int) :: r).length=l.length:=fun l=>by
        induction l with
        | nil=>rfl
        | cons a l ih=>rw [List.flatMap_cons,List.length_append,ih];simp [allL];omega
      rw [allL,this];simp;omega
    have:∀ l:List Nat,(l.flatMap fun v=>(allL 1 (n - v)).map fun r=>(v:Int) :: r).length ≤ 61 * l.length:=fun l=>by
      induction l with
      | nil=>simp
      | cons a l ih =>
        have:=h1 (n - a) (by omega)
        rw [List.flatMap_cons,List.length_append,List.length_map,List.length_cons]
        omega
    rw [allL]
    have:=this (List.range (n + 1))
    rw [List.length_range] at this
    omega
theorem mem_allL:∀ {d n:Nat} {v:List Int},v ∈ allL d n ↔ v.length=d + 1∧nnV v∧v.sum=(n:Int)
  | 0,n,v=>by
    rw [allL,List.mem_singleton]
    constructor
    · rintro rfl
      exact ⟨rfl,fun x hx=>by obtain rfl:x=(n:Int):=(by simpa using hx);omega,by simp⟩
    · rintro ⟨h1,h2,h3⟩
      match v,h1 with
      | [x],_=>simp at h3;rw [h3]
  | d + 1,n,v=>by
    rw [allL,List.mem_flatMap]
    constructor
    · rintro ⟨a,ha,hv⟩
      obtain ⟨r,hr,rfl⟩:=List.mem_map.1 hv
      obtain ⟨h1,h2,h3⟩:=mem_allL.1 hr
      have ha:=List.mem_range.1 ha
      refine ⟨by simp [h1],fun x hx=>?_,by rw [List.sum_cons,h3];omega⟩
      rcases List.mem_cons.1 hx with rfl|hx
      · omega
      · exact h2 x hx
    · rintro ⟨h1,h2,h3⟩
      match v,h1 with
      | x :: r,h1 =>
        have hx:=h2 x (by simp)
        have hr:nnV r:=fun z hz=>h2 z (by simp [hz])
        have hs:=sum_nn hr
        rw [List.sum_cons] at h3
        refine ⟨x.toNat,List.mem_range.2 (by omega),List.mem_map.2 ⟨r,mem_allL.2 ⟨by simpa using h1,hr,by omega⟩,?_⟩⟩
        rw [Int.toNat_of_nonneg hx]
theorem all_l1 (d n:Int) (a:Int) (m:List (List Int)):∀ (t pre o:List (List Int)) (r:List (List Int)),m=pre ++ t → m.length < 1000000 → o.length + t.length < 1000000000 → (∀ p,p ∈ t → p.length < 1000) →
    Ev (fun k=>bellpullref05_All.l0 k d n (o ++ t.map (a :: ·)) (wrap64 (a + 1))) r → Ev (fun k=>bellpullref05_All.l1 k d n o a m (pre.length:Int)) r
  | [],pre,o,r,e,hl,ho,hp,h=>by
    have:m.length=pre.length:=by rw [e];simp
    refine Ev.succ ?_
    simp only [bellpullref05_All.l1]
    refine Ev.neg (by omega) ?_
    rw [List.map_nil,List.append_nil] at h
    exact h
  | p :: t,pre,o,r,e,hl,ho,hp,h=>by
    have hml:m.length=pre.length + (t.length + 1):=by rw [e];simp
    have hrd:rd_L1 m (pre.length:Int)=p:=by rw [e];exact rdL1_app _ _ _
    have pl:=hp p (by simp)
    have ih:=all_l1 d n a m t (pre ++ [p]) (o ++ [a :: p]) r (by rw [e];simp) hl (by simp at ho ⊢;omega) (fun q hq=>hp q (by simp [hq])) (by
      rw [List.append_assoc];exact h)
    rw [← len_snoc] at ih
    refine Ev.succ ?_
    simp only [bellpullref05_All.l1,hrd,wsucc (show pre.length < 4611686018427387904 by omega)]
    simp at ho
    exact Ev.pos (by omega) (Ev.bindc rfl (Ev.pos (by omega) (Ev.pos (by simp;omega) (Ev.pos (by omega) ih))))
theorem all_ev:∀ (d n:Nat),d ≤ 2 → n ≤ 60 → Ev (fun k=>bellpullref05_All.f k ((d + 1:Nat):Int) (n:Int)) (allL d n)
  | 0,n,_,_=>by
    refine Ev.succ ?_
    simp only [bellpullref05_All.f]
    exact Ev.pos (by simp) (Ev.now _)
  | d + 1,n,hd,hn=>by
    have IH:=fun m=>all_ev d m (by omega)
    have loop:∀ (j v:Nat) (o:List (List Int)),n + 1 - v=j → v ≤ n + 1 → o.length ≤ 4000 * v → Ev (fun k=>bellpullref05_All.l0 k ((d + 1 + 1:Nat):Int) (n:Int) o (v:Int)) (o ++ (List.range' v j).flatMap fun v=>(allL d (n - v)).map fun r=>(v:Int) :: r):=fun j=>by
      induction j with
      | zero =>
        intro v o hj hv ho
        refine Ev.succ ?_
        simp only [bellpullref05_All.l0]
        refine Ev.neg (by omega) ?_
        simp
        exact Ev.now _
      | succ j ih =>
        intro v o hj hv ho
        have hl:=allL_len d (n - v) (by omega) (by omega)
        have ih:=ih (v + 1) (o ++ (allL d (n - v)).map ((v:Int) :: ·)) (by omega) (by omega) (by rw [List.length_append,List.length_map];omega)
        have w1:wrap64 (((d + 1 + 1:Nat):Int) - 1)=((d + 1:Nat):Int):=by rw [wrap_id (by omega) (by omega)];omega
        have w2:wrap64 ((n:Int) - (v:Int))=((n - v:Nat):Int):=by rw [wrap_id (by omega) (by omega)];omega
        refine Ev.succ ?_
        simp only [bellpullref05_All.l0,w1,w2]
        refine Ev.pos (by omega) (Ev.bind (IH (n - v) (by omega)) ?_)
        refine all_l1 _ _ (v:Int) (allL d (n - v)) (allL d (n - v)) [] o _ rfl (by omega) (by omega) (fun p hp=>by have:=(mem_allL.1 hp).1;omega) ?_
        rw [wsucc (by omega),List.range'_succ,List.flatMap_cons,← List.append_assoc]
        exact ih
    refine Ev.succ ?_
    simp only [bellpullref05_All.f]
    refine Ev.neg (by omega) ?_
    have:=loop (n + 1) 0 [] (by omega) (by omega) (by simp)
    rw [List.nil_append,← List.range_eq_range'] at this
    exact this
end Go.Proofs.Ytkonljiembcdlaa.Pure
/- The document's examples. -/
set_option linter.unusedVariables false
namespace Go.Proofs.Ytkonljiembcdlaa.Pure
open Go.RowKit Go.Proofs.YtkonljiembcdlaaW.PrintWords Go.Proofs.Ytkonljiembcdlaa.PC
theorem lives_ev:Ev (fun k=>bellpulllaw05_lives.f k) true :=
  Ev.of (fun k=>bellpulllaw05_lives.mono k) (k:=60) (by kernel_rfl)
end Go.Proofs.Ytkonljiembcdlaa.Pure
/- CountCounts: for every input the law returns true. -/
set_option linter.unusedVariables false
set_option linter.unusedSimpArgs false
namespace Go.Proofs.Ytkonljiembcdlaa.Pure
open Go.RowKit Go.Proofs.MyWords Go.Proofs.YtkonljiembcdlaaW.PrintWords Go.Proofs.YtkonljiembcdlaaW.PrintLast Go.Proofs.YtkonljiembcdlaaW.PrintMore Go.Proofs.Ytkonljiembcdlaa.PC Go.Proofs.Ytkonljiembcdlaa.Sem
theorem vecs_all:∀ (d s:Nat) (pre:List Int),vecs d s pre=(allL d s).map (pre ++ ·)
  | 0,s,pre=>rfl
  | d + 1,s,pre=>by
    rw [vecs,allL,List.map_flatMap]
    congr 1
    funext z
    rw [vecs_all d (s - z) (pre ++ [(z:Int)]),List.map_map]
    congr 1
    funext r
    simp
theorem in20 (x:Int):bellpullref01_In.f x 0 20=some (!(decide (x < 0) || decide (20 < x))):=by
  unfold bellpullref01_In.f
  by_cases h:x ≥ 0
  · rw [if_pos h,decide_eq_false (show ¬ x < 0 by omega),Bool.false_or,← decide_not]
    simp
  · rw [if_neg h,decide_eq_true (show x < 0 by omega)];rfl
theorem before_go:∀ (s t v w:List Int),v.length=w.length → (v ++ s).length < 1000000 → Ev (fun k=>bellpullref01_Before.l0 k (v ++ s) (w ++ t) (v.length:Int)) (decide (cmpL s t < 0))
  | [],[],v,w,hl,h1=>by
    refine Ev.succ ?_
    simp only [bellpullref01_Before.l0]
    refine Ev.neg (by simp) (Ev.succ ?_)
    simp only [bellpullref01_Before.j1]
    refine Ev.neg (by simp) (Ev.const ?_)
    simp [cmpL,hl]
  | [],b :: t,v,w,hl,h1=>by
    refine Ev.succ ?_
    simp only [bellpullref01_Before.l0]
    refine Ev.neg (by simp) (Ev.succ ?_)
    simp only [bellpullref01_Before.j1]
    refine Ev.neg (by simp) (Ev.const ?_)
    simp [cmpL,hl]
    omega
  | a :: s,[],v,w,hl,h1=>by
    have e:decide ((v.length:Int) < ((w ++ []).length:Int))=false:=decide_eq_false (by simp;omega)
    refine Ev.succ ?_
    simp only [bellpullref01_Before.l0,e]
    refine Ev.pos (by simp;omega) (Ev.succ ?_)
    simp only [bellpullref01_Before.j1]
    refine Ev.neg (by simp) (Ev.const ?_)
    simp [cmpL,hl]
    omega
  | a :: s,b :: t,v,w,hl,h1=>by
    have hv:v.length < 1000000:=by simp at h1;omega
    have e:decide ((v.length:Int) < ((w ++ b :: t).length:Int))=true:=decide_eq_true (by simp;omega)
    have e2:rd (w ++ b :: t) (v.length:Int)=b:=by rw [hl];exact rd_app _ _ _
    have ih:=before_go s t (v ++ [a]) (w ++ [b]) (by simp;omega) (by simpa using h1)
    rw [← app_snoc,← app_snoc,← len_snoc] at ih
    refine Ev.succ ?_
    simp only [bellpullref01_Before.l0,e]
    refine Ev.pos (by simp;omega) (Ev.succ ?_)
    simp only [bellpullref01_Before.j1,rd_app,e2,wsucc (show v.length < 4611686018427387904 by omega)]
    refine Ev.pos trivial (Ev.pos (by omega) (Ev.pos (by simp;omega) (Ev.pos (by simp;omega) ?_)))
    by_cases c:a=b
    · subst c
      have:cmpL (a :: s) (a :: t)=cmpL s t:=by simp [cmpL]
      rw [this]
      exact Ev.pos rfl ih
    · refine Ev.neg c (Ev.const ?_)
      by_cases c1:a < b
      · simp [cmpL,c1]
      · have c2:a > b:=by omega
        simp [cmpL,c1,c2]
theorem before_ev {s t:List Int} (h1:s.length < 1000000):Ev (fun k=>bellpullref01_Before.f k s t) (decide (cmpL s t < 0)):=before_go s t [] [] rfl h1
theorem cmp_self:∀ s:List Int,cmpL s s=0
  | []=>rfl
  | a :: s=>by simp [cmpL,cmp_self s]
theorem same_ev {s:List Int} (h:s.length < 1000000):Ev (fun k=>bellpullref01_Same.f k s s) true:=by
  have b:=before_ev (s:=s) (t:=s) h
  rw [cmp_self] at b
  unfold bellpullref01_Same.f
  exact Ev.bind b (Ev.neg (by simp) (Ev.bind b (Ev.now _)))
theorem counts_l1 {x:List S60} {v:List Int} (h8:x.length < 1000000) (hv:v.length < 1000000):∀ (t pre:List S60) (b:List Int),x=pre ++ t → (∀ l,l ∈ t → fineV l.f0) → fineV b → leastB t (some b)=some v → Ev (fun k=>bellpulllaw05_CountCounts.l1 k x v 0 b (pre.length:Int)) true
  | [],pre,b,e,_,fb,hb=>by
    have hl:x.length=pre.length:=by rw [e];simp
    obtain rfl:b=v:=by simpa [leastB] using hb
    refine Ev.succ ?_
    simp only [bellpulllaw05_CountCounts.l1]
    exact Ev.neg (by omega) (Ev.bind (same_ev hv) (Ev.pos rfl (Ev.pos trivial (Ev.bind lives_ev (Ev.now _)))))
  | l :: t,pre,b,e,hx,fb,hb=>by
    have hl:x.length=pre.length + (t.length + 1):=by rw [e];simp
    have hrd:rd_T60 x (pre.length:Int)=l:=by rw [e];exact rdT60_app _ _ _
    have fl:=hx l (by simp)
    have ih:=fun c fc hc=>counts_l1 h8 hv t (pre ++ [l]) c (by rw [e];simp) (fun m hm=>hx m (by simp [hm])) fc hc
    rw [← len_snoc] at ih
    simp only [leastB] at hb
    refine Ev.succ ?_
    simp only [bellpulllaw05_CountCounts.l1,hrd,wsucc (show pre.length < 4611686018427387904 by omega)]
    refine Ev.pos (by omega) (Ev.pos (by omega) (Ev.bind (refTotal_ev fl.1 fl.2) (Ev.bind (refTotal_ev fb.1 fb.2) ?_)))
    by_cases h1:l.f0.sum < b.sum
    · rw [if_pos (show better l.f0 b=true by simp [better,h1])] at hb
      exact Ev.pos h1 (ih _ fl hb)
    · refine Ev.neg h1 ?_
      by_cases h2:l.f0.sum=b.sum
      · refine Ev.pos h2 (Ev.bind (before_ev fl.2) ?_)
        by_cases h3:cmpL l.f0 b < 0
        · rw [if_pos (show better l.f0 b=true by simp [better,h2,h3])] at hb
          exact Ev.pos (decide_eq_true h3) (ih _ fl hb)
        · rw [if_neg (show ¬ better l.f0 b=true by simp [better,h2,h3])] at hb
          exact Ev.neg (by simpa using h3) (ih _ fb hb)
      · rw [if_neg (show ¬ better l.f0 b=true by simp [better,h1,h2])] at hb
        exact Ev.neg h2 (ih _ fb hb)
def leastR (x:List S60):List Int × Int:=match leastB x none with|none=>([],5)|some v=>(v,0)
theorem counts_j4 {x:List S60} {c:Int} {l:List Int} {f:Int} (h0:c=0 → x.length ≤ 8∧(∀ l,l ∈ x → fineV l.f0)∧(l,f)=leastR x) (h1:c ≠ 0 → l=[]∧f=c):Ev (fun k=>bellpulllaw05_CountCounts.j4 k x c l f) true:=by
  have bad:∀ c:Int,c ≠ 0 → Ev (fun k=>bellpulllaw05_CountCounts.j6 k x c [] c) true:=fun c hc=>by
    refine Ev.succ ?_
    simp only [bellpulllaw05_CountCounts.j6]
    exact Ev.neg hc (Ev.pos rfl (Ev.pos trivial (Ev.bind lives_ev (Ev.now _))))
  refine Ev.succ ?_
  simp only [bellpulllaw05_CountCounts.j4]
  by_cases hc:c=0
  · obtain ⟨h8,hx,hl⟩:=h0 hc
    refine Ev.pos hc (Ev.succ ?_)
    simp only [bellpulllaw05_CountCounts.j5]
    cases x with
    | nil =>
      obtain ⟨rfl,rfl⟩:=Prod.mk.inj hl
      exact Ev.pos rfl (bad 5 (by decide))
    | cons m t =>
      have hn:(((m :: t).length:Int) == 0)=false:=by simp;omega
      rw [hn]
      refine Ev.neg (by simp) (Ev.succ ?_)
      simp only [bellpulllaw05_CountCounts.j6]
      obtain ⟨v,e,i,_⟩:=leastB_some t m.f0
      have e2:leastB (m :: t) none=some v:=e
      unfold leastR at hl
      rw [e2] at hl
      obtain ⟨rfl,rfl⟩:=Prod.mk.inj hl
      have fm:=hx m (by simp)
      have hv:fineV l:=by
        rcases i with rfl|⟨q,hq,rfl⟩
        · exact fm
        · exact hx q (by simp [hq])
      exact Ev.pos hc (Ev.pos (by rw [List.length_cons];omega) (counts_l1 (x:=m :: t) (by omega) hv.2 t [m] m.f0 rfl (fun q hq=>hx q (by simp [hq])) fm e))
  · obtain ⟨rfl,rfl⟩:=h1 hc
    refine Ev.neg hc (Ev.succ ?_)
    simp only [bellpulllaw05_CountCounts.j5]
    exact Ev.neg (by simp) (bad _ hc)
theorem cntV_cons {d:Nat} {set:List S60} {v:List Int} {r:List (List Int)}:(InS d set v → cntV d set (v :: r)=cntV d set r + 1)∧(¬ InS d set v → cntV d set (v :: r)=cntV d set r):=by
  unfold cntV
  refine ⟨fun h=>?_,fun h=>?_⟩
  · rw [List.filter_cons_of_pos (by simpa using h)];simp
  · rw [List.filter_cons_of_neg (by simpa using h)]
theorem cntV_le {d:Nat} {set:List S60} {r:List (List Int)}:0 ≤ cntV d set r∧cntV d set r ≤ r.length:=by
  unfold cntV
  have:=List.length_filter_le (fun v=>@decide (InS d set v) (Classical.propDecidable _)) r
  omega
theorem counts_l0 {d:Nat} (hd:d ≤ 3) {x:List S60} (hx:okSet d x) {c cnt:Int} {l:List Int} {f:Int} {all:List (List Int)} (hall:all.length ≤ 4000) (ha:∀ v,v ∈ all → okV d 60 v) (h4:Ev (fun k=>bellpulllaw05_CountCounts.j4 k x c l f) true):∀ (t pre:List (List Int)) (m:Nat),all=pre ++ t → m ≤ pre.length → cnt=(m:Int) + cntV d x t → Ev (fun k=>bellpulllaw05_CountCounts.l0 k x c cnt 0 l f (m:Int) all (pre.length:Int)) true
  | [],pre,m,e,hm,hc=>by
    have hl:all.length=pre.length:=by rw [e];simp
    have:cntV d x []=0:=rfl
    refine Ev.succ ?_
    simp only [bellpulllaw05_CountCounts.l0]
    exact Ev.neg (by omega) (Ev.pos (by omega) (Ev.pos trivial h4))
  | v :: t,pre,m,e,hm,hc=>by
    have hl:all.length=pre.length + (t.length + 1):=by rw [e];simp
    have hrd:rd_L1 all (pre.length:Int)=v:=by rw [e];exact rdL1_app _ _ _
    have ih:=fun m=>counts_l0 (cnt:=cnt) hd hx hall ha h4 t (pre ++ [v]) m (by rw [e];simp)
    rw [← len_snoc] at ih
    obtain ⟨b,e1,i1⟩:=refHas_ev (d:=d) (by omega) (ha v (by rw [e];simp)) (set:=x) (fun l hl=>⟨hx.okL l hl,by have:=(hx.2 l hl).2.1;omega⟩) (by have:=hx.1;omega)
    refine Ev.succ ?_
    simp only [bellpulllaw05_CountCounts.l0,hrd,wsucc (show pre.length < 4611686018427387904 by omega),wsucc (show m < 4611686018427387904 by omega)]
    refine Ev.pos (by omega) (Ev.pos (by omega) (Ev.bind e1 ?_))
    cases b
    · refine Ev.neg (by simp) (ih m (by omega) ?_)
      rw [hc,cntV_cons.2 (fun h=>by cases i1.2 h)]
    · refine Ev.pos rfl (ih (m + 1) (by omega) ?_)
      rw [hc,cntV_cons.1 (i1.1 rfl)]
      omega
theorem CountCounts:∀ (a0_0 a0_1:Int) (l0_2 l0_3:List PC.S60) (l0_4:List Int),(Lit.int .i64 a0_0).wf=true → (Lit.int .i64 a0_1).wf=true → ∃ k,bellpulllaw05_CountCounts.f k a0_0 a0_1 l0_2 l0_3 l0_4=some true:=by
  intro d n X Y V _ _
  refine Ev.rounds (g:=fun k=>bellpulllaw05_CountCounts.f k d n X Y V) ?_
  obtain ⟨x,hx⟩:∃ x,x=fewL X:=⟨_,rfl⟩
  have sx:shortS x:=by rw [hx];exact few_short X
  have hchk:Ev (fun k=>bellpullref05_Check.f k d [x]) (chk d [x]):=refCheck_ev d [x] (by unfold short;simp) (fun t ht=>by
    obtain rfl:t=x:=by simpa using ht
    exact sx)
  have hcc:=check1 d sx
  unfold bellpulllaw05_CountCounts.f
  refine Ev.bind (few_ev X) ?_
  rw [← hx]
  refine Ev.bind hchk ?_
  obtain ⟨c,hc⟩:∃ c,c=chk d [x]:=⟨_,rfl⟩
  have c4:=chk_range d [x]
  rw [← hc] at hcc c4 ⊢
  have hin:=in20 n
  have hbound:Ev (fun k=>count_bounded.f k n d [x]) (if c=3 then 3 else if n < 0 then 1 else if n > 20 then 1 else c):=by
    unfold count_bounded.f
    refine Ev.bind hcc (Ev.const ?_)
    by_cases h3:c=3
    · simp [h3]
    · by_cases h0:n < 0
      · simp [h3,h0]
      · by_cases h2:n > 20
        · simp [h3,h0,h2]
        · simp [h3,h0,h2]
  -- a Count that ends in an error
  have cbad:∀ e:Int,e ≠ 0 → Ev (fun k=>count_bounded.f k n d [x]) e → Ev (fun k=>count_Count.f k d x n) (0,e):=fun e he hb=>by
    unfold count_Count.f
    exact Ev.bind hb (Ev.neg he (Ev.now _))
  have tailbad:∀ (l:List Int) (f e:Int),e ≠ 0 → Ev (fun k=>bellpulllaw05_CountCounts.j4 k x c l f) true → Ev (fun k=>bellpulllaw05_CountCounts.j2 k x c 0 e l f e d n X Y V) true:=fun l f e he h4=>by
    refine Ev.succ ?_
    simp only [bellpulllaw05_CountCounts.j2]
    exact Ev.neg he (Ev.pos trivial (Ev.pos trivial h4))
  by_cases c0:c=0
  · have ok:=chk_ok.1 (hc.symm.trans c0)
    have okx:=ok.2 x (by simp)
    obtain ⟨dn,rfl⟩:∃ dn:Nat,d=(dn:Int):=⟨d.toNat,by omega⟩
    rw [Int.toNat_natCast] at okx
    have h1:1 ≤ dn:=by omega
    have h3:dn ≤ 3:=by omega
    obtain ⟨hb,hev⟩:=heavy_ev h3 okx
    refine Ev.pos c0 (Ev.bind hev (Ev.succ ?_))
    simp only [bellpulllaw05_CountCounts.j0]
    cases hb
    · refine Ev.neg (by simp) ?_
      have hL:Ev (fun k=>count_Least.f k (dn:Int) x) (leastR x):=by
        have:=Least_ev h1 h3 okx
        unfold leastR
        exact this
      obtain ⟨l,f,hlf⟩:∃ l f,(l,f)=leastR x:=⟨_,_,rfl⟩
      rw [← hlf] at hL
      have fx:∀ l,l ∈ x → fineV l.f0:=fun l hl=>⟨((okx.2 l hl).1.mono (n:=1000000) (by decide)).2,by have:=(okx.2 l hl).1.1;omega⟩
      have h4:Ev (fun k=>bellpulllaw05_CountCounts.j4 k x c l f) true:=counts_j4 (fun _=>⟨okx.1,fx,hlf⟩) (fun h=>absurd c0 h)
      by_cases hr:0 ≤ n∧n ≤ 20
      · have hi:bellpullref01_In.f n 0 20=some true:=by
          rw [hin,decide_eq_false (by omega),decide_eq_false (by omega)];rfl
        obtain ⟨m,rfl⟩:∃ m:Nat,n=(m:Int):=⟨n.toNat,by omega⟩
        have hC:=Count_ev h1 h3 okx (show m ≤ 20 by omega)
        have ha:=all_ev (dn - 1) m (by omega) (by omega)
        have hlen:=allL_len (dn - 1) m (by omega) (by omega)
        rw [show dn - 1 + 1=dn by omega] at ha
        have hcl:=@cntV_le dn x (allL (dn - 1) m)
        rw [vecs_all,show (allL (dn - 1) m).map (([]:List Int) ++ ·)=allL (dn - 1) m from List.map_id' _,wrap_id (by omega) (by omega)] at hC
        refine Ev.bind hC (Ev.bind hL (Ev.neg (by omega) (Ev.bindc hi (Ev.succ ?_))))
        simp only [bellpulllaw05_CountCounts.j1]
        refine Ev.neg (by simp) (Ev.succ ?_)
        simp only [bellpulllaw05_CountCounts.j2]
        refine Ev.pos c0 (Ev.bind ha ?_)
        exact counts_l0 h3 okx hlen (fun v hv=>by
          obtain ⟨q1,q2,q3⟩:=mem_allL.1 hv
          exact ⟨by omega,fun z hz=>⟨q2 z hz,by have:=mem_le_sum q2 z hz;omega⟩⟩) h4 _ [] 0 rfl (by simp) (by omega)
      · have hi:bellpullref01_In.f n 0 20=some false:=by
          rw [hin]
          by_cases h:n < 0
          · rw [decide_eq_true h];rfl
          · rw [decide_eq_true (show 20 < n by omega),Bool.or_true];rfl
        have hC:=cbad 1 (by decide) (by
          rw [if_neg (by omega)] at hbound
          by_cases h:n < 0
          · rw [if_pos h] at hbound;exact hbound
          · rw [if_neg h,if_pos (by omega)] at hbound;exact hbound)
        refine Ev.bind hC (Ev.bind hL (Ev.neg (by omega) (Ev.bindc hi (Ev.succ ?_))))
        simp only [bellpulllaw05_CountCounts.j1]
        exact Ev.pos rfl (tailbad l f 1 (by decide) h4)
    · exact Ev.pos rfl (Ev.bind lives_ev (Ev.now _))
  · refine Ev.neg c0 (Ev.succ ?_)
    simp only [bellpulllaw05_CountCounts.j0]
    refine Ev.neg (by simp) ?_
    have hL:Ev (fun k=>count_Least.f k d x) ([],c):=by
      unfold count_Least.f
      exact Ev.bind hcc (Ev.neg c0 (Ev.now _))
    have h4:Ev (fun k=>bellpulllaw05_CountCounts.j4 k x c [] c) true:=counts_j4 (fun h=>absurd h c0) (fun _=>⟨rfl,rfl⟩)
    by_cases c3:c=3
    · rw [if_pos c3] at hbound
      refine Ev.bind (cbad 3 (by decide) hbound) (Ev.bind hL (Ev.pos c3 (Ev.succ ?_)))
      simp only [bellpulllaw05_CountCounts.j1]
      refine Ev.neg (by simp) ?_
      have:=tailbad [] c 3 (by decide) h4
      rw [c3] at this ⊢
      exact this
    · rw [if_neg c3] at hbound
      by_cases hr:0 ≤ n∧n ≤ 20
      · have hi:bellpullref01_In.f n 0 20=some true:=by
          rw [hin,decide_eq_false (by omega),decide_eq_false (by omega)];rfl
        rw [if_neg (by omega),if_neg (by omega)] at hbound
        refine Ev.bind (cbad c c0 hbound) (Ev.bind hL (Ev.neg c3 (Ev.bindc hi (Ev.succ ?_))))
        simp only [bellpulllaw05_CountCounts.j1]
        exact Ev.neg (by simp) (tailbad [] c c c0 h4)
      · have hi:bellpullref01_In.f n 0 20=some false:=by
          rw [hin]
          by_cases h:n < 0
          · rw [decide_eq_true h];rfl
          · rw [decide_eq_true (show 20 < n by omega),Bool.or_true];rfl
        have hC:=cbad 1 (by decide) (by
          by_cases h:n < 0
          · rw [if_pos h] at hbound;exact hbound
          · rw [if_neg h,if_pos (by omega)] at hbound;exact hbound)
        refine Ev.bind hC (Ev.bind hL (Ev.neg c3 (Ev.bindc hi (Ev.succ ?_))))
        simp only [bellpulllaw05_CountCounts.j1]
        exact Ev.pos rfl (tailbad [] c 1 (by decide) h4)
end Go.Proofs.Ytkonljiembcdlaa.Pure
/- An array of three bytes, and a slice of bytes, as arguments: opened, and shut. -/
set_option linter.unusedVariables false
set_option linter.constructorNameAsVariable false
namespace Go.Proofs.Ytkonljiembcdlaa.RowT
open Go.ChangeShapes Go.WideShapes Go.ChangeAt Go.RowKit Go.Joins
section
variable {H:Type} {enc:TypeId × Value → H} {w:World} {base:Nat} {spare:Nat → Bool} {held:Bool}
end
end Go.Proofs.Ytkonljiembcdlaa.RowT
/- A query, and a plan, as arguments: opened. -/
set_option linter.unusedVariables false
set_option linter.constructorNameAsVariable false
namespace Go.Proofs.Ytkonljiembcdlaa.RowT
open Go.ChangeShapes Go.WideShapes Go.ChangeAt Go.RowKit Go.Joins Go.Proofs.YtkonljiembcdlaaW.PrintWords Go.Proofs.Ytkonljiembcdlaa.PC
theorem list_of {α:Type} {p:Nat → α → Prop}:∀ n:Nat,(∀ i,i < n → ∃ y,p i y) → ∃ xs:List α,xs.length=n∧∀ i y,xs[i]?=some y → p i y
  | 0,_=>⟨[],rfl,fun i y h=>by simp at h⟩
  | n + 1,h=>by
    obtain ⟨xs,h1,h2⟩:=list_of n (fun i hi=>h i (by omega))
    obtain ⟨y,hy⟩:=h n (by omega)
    refine ⟨xs ++ [y],by simp [h1],fun i z hz=>?_⟩
    by_cases hi:i < n
    · rw [List.getElem?_append_left (by omega)] at hz
      exact h2 i z hz
    · have:i < (xs ++ [y]).length:=by
        apply Classical.byContradiction
        intro hn
        rw [List.getElem?_eq_none (by omega)] at hz
        cases hz
      obtain rfl:i=n:=by simp [h1] at this;omega
      rw [List.getElem?_append_right (by omega),h1,Nat.sub_self] at hz
      obtain rfl:=Option.some.inj hz
      exact hy
section
variable {H:Type} {enc:TypeId × Value → H} {w:World} {base:Nat} {held:Bool}
theorem addr_add (a:Addr) (m k:Nat):(a.add m).add k=a.add (m + k):=by
  by_cases h1:k=0
  · subst h1;simp [Addr.add]
  · by_cases h2:m=0
    · subst h2;simp [Addr.add,h1]
    · simp [Addr.add,h1,h2,Nat.add_assoc]
theorem C_of_trod {α:Type} (d:Kd α) {t e:TypeId} (ht:Try.prog.underlying t=some (.slice e)) (hc:Try.prog.cellsOf e=d.sz)
    (hx:∀ fuel cs x,DataW.trod enc Try.prog w base (fun _=>true) held fuel e cs=some x → ∃ y,d.K w y cs) {fuel:Nat} {cs:List Value} {x:DataW H × List MemPlace} (h:DataW.trod enc Try.prog w base (fun _=>true) held fuel t cs=some x) :
    ∃ (A:Option Addr) (c:Nat) (xs:List α),cs=[.slice A xs.length c]∧xs.length ≤ c∧d.C w A xs.length xs:=by
  rcases Go.Deep.open_slice ht h with ⟨rfl,_⟩|⟨a,len,cap,m,n,D,Pl,rfl,_,hl,hm,hmm,_,hel⟩
  · exact ⟨none,0,[],rfl,Nat.le_refl _,rfl,Nat.zero_le _,fun h=>by simp at h⟩
  · have hlm:len ≤ m:=by rw [hmm];simp;exact hl
    have hcap:cap ≤ 9223372036854775807:=hm
    obtain ⟨xs,h1,h2⟩:=list_of (p:=fun i y=>∃ c:List Value,c.length=d.sz∧d.K w y c∧∀ k u,c[k]?=some u → w.cell? (a.add (i * d.sz + k))=some u) len (fun i hi=>by
      obtain ⟨cs',hcs,hr⟩:=hel i (by omega)
      obtain ⟨_,hlen,hcell⟩:=World.cells?_some hcs
      obtain ⟨y,hy⟩:=hx n cs' _ hr
      refine ⟨y,cs',hlen.trans hc,hy,fun k u hu=>?_⟩
      have hk:k < cs'.length:=by
        apply Classical.byContradiction
        intro hn
        rw [List.getElem?_eq_none (by omega)] at hu
        cases hu
      have:=hcell k (by omega)
      rw [hu,hc] at this
      have e:(a.add (i * d.sz)).add k=a.add (i * d.sz + k):=addr_add a _ k
      rw [e] at this
      exact this)
    refine ⟨some a,cap,xs,by rw [h1],by omega,rfl,by omega,fun _=>⟨a,rfl,h2⟩⟩
theorem int_of_trod:∀ (fuel:Nat) (cs:List Value) (x:DataW H × List MemPlace),DataW.trod enc Try.prog w base (fun _=>true) held fuel 3 cs=some x → ∃ y,(Kd.int .i64).K w y cs:=fun fuel cs x h=>by
  obtain ⟨n,rfl,_,_⟩:=DataW.trod_int Try.underlying3 h
  exact ⟨n,rfl⟩
theorem ints_of_trod {fuel:Nat} {cs:List Value} {x:DataW H × List MemPlace} (h:DataW.trod enc Try.prog w base (fun _=>true) held fuel 23 cs=some x):∃ (A:Option Addr) (c:Nat) (xs:List Int),cs=[.slice A xs.length c]∧xs.length ≤ c∧(Kd.int .i64).C w A xs.length xs :=
  C_of_trod (Kd.int .i64) Try.underlying23 (by kernel_rfl) int_of_trod h
set_option maxRecDepth 100000 in
theorem lin_of_trod (fuel:Nat) (cs:List Value) (x:DataW H × List MemPlace) (h:DataW.trod enc Try.prog w base (fun _=>true) held fuel 60 cs=some x):∃ y,k60.K w y cs:=by
  have c60:Try.prog.cellsOf 60=2:=by kernel_rfl
  have c23:Try.prog.cellsOf 23=1:=by kernel_rfl
  have c58:Try.prog.cellsOf 58=1:=by kernel_rfl
  obtain ⟨y0,y1,n,_,hl,h0,h1⟩:=trod_struct2 Try.underlying60 h
  rw [c60] at hl
  match cs,hl with
  | [v0,v1],_ =>
    have e0:(([v0,v1]:List Value).drop 0).take (Try.prog.cellsOf 23)=[v0]:=by rw [c23];rfl
    have e1:(([v0,v1]:List Value).drop 1).take (Try.prog.cellsOf 58)=[v1]:=by rw [c58];rfl
    dsimp only at h0 h1
    rw [e0] at h0
    rw [e1] at h1
    obtain ⟨A0,c0,xs,hv0,hl0,g0⟩:=ints_of_trod h0
    obtain ⟨A1,c1,ys,hv1,hl1,g1⟩:=C_of_trod (Kd.slice 3 (Kd.int .i64)) Try.underlying58 c23 (fun fuel cs x h=>by
      obtain ⟨A,c,zs,rfl,hl,g⟩:=ints_of_trod h
      exact ⟨zs,A,c,rfl,hl,g⟩) h1
    obtain rfl:v0=.slice A0 xs.length c0:=by simpa using hv0
    obtain rfl:v1=.slice A1 ys.length c1:=by simpa using hv1
    exact ⟨⟨xs,ys⟩,k60_mk w ⟨xs,ys⟩ hl0 g0 hl1 g1⟩
set_option maxRecDepth 100000 in
theorem lins_of_trod {fuel:Nat} {cs:List Value} {x:DataW H × List MemPlace} (h:DataW.trod enc Try.prog w base (fun _=>true) held fuel 22 cs=some x):∃ (A:Option Addr) (c:Nat) (xs:List S60),cs=[.slice A xs.length c]∧xs.length ≤ c∧k60.C w A xs.length xs :=
  C_of_trod k60 Try.underlying22 (by kernel_rfl) lin_of_trod h
set_option maxRecDepth 100000 in
theorem open_query {r:Reach} {b0:Nat} {v:Value} {d:DataW H} {p:List MemPlace} (hv:Value.okWide Try.prog w r b0 25 v) (h:DataW.Trod enc Try.prog w base (fun _=>true) held 25 v d p) :
    ∃ (D N:Int) (A2:Option Addr) (c2:Nat) (X:List S60) (A3:Option Addr) (c3:Nat) (Y:List S60) (A4:Option Addr) (c4:Nat) (V:List Int),v=.agg #[.int .i64 D,.int .i64 N,.slice A2 X.length c2,.slice A3 Y.length c3,.slice A4 V.length c4] ∧
      (Lit.int .i64 D).wf=true∧(Lit.int .i64 N).wf=true∧k60.C w A2 X.length X∧X.length ≤ c2∧k60.C w A3 Y.length Y∧Y.length ≤ c3∧(Kd.int .i64).C w A4 V.length V∧V.length ≤ c4:=by
  obtain ⟨cs,rfl,hsz⟩:=okWide_struct Try.underlying25 hv
  have c25:Try.prog.cellsOf 25=5:=by kernel_rfl
  have c3':Try.prog.cellsOf 3=1:=by kernel_rfl
  have c22:Try.prog.cellsOf 22=1:=by kernel_rfl
  have c23:Try.prog.cellsOf 23=1:=by kernel_rfl
  rw [c25] at hsz
  obtain ⟨l,rfl⟩:∃ l:List Value,cs=l.toArray:=⟨cs.toList,by simp⟩
  have hl:l.length=5:=by simpa using hsz
  obtain ⟨fuel,hf⟩:=h
  match l,hl with
  | [v0,v1,v2,v3,v4],_ =>
    cases fuel with
    | zero=>simp [DataW.trod] at hf
    | succ m =>
      rw [DataW.trod_step] at hf
      unfold DataW.trodStep at hf
      simp only [Try.underlying25,Value.cells] at hf
      rw [if_pos (by rw [c25];rfl)] at hf
      simp only [Option.map_eq_some_iff] at hf
      obtain ⟨ys,hy,_⟩:=hf
      simp only [c3',c22,c23,List.mapM_cons,List.mapM_nil,bind,pure,Option.bind_eq_some_iff,Option.some.injEq] at hy
      obtain ⟨y0,h0,_,⟨y1,h1,_,⟨y2,h2,_,⟨y3,h3,_,⟨y4,h4,_,rfl,rfl⟩,rfl⟩,rfl⟩,rfl⟩,rfl⟩:=hy
      obtain ⟨D,eD,_,wD⟩:=DataW.trod_int Try.underlying3 h0
      obtain ⟨N,eN,_,wN⟩:=DataW.trod_int Try.underlying3 h1
      obtain ⟨A2,c2,X,eX,l2,g2⟩:=lins_of_trod h2
      obtain ⟨A3,c3,Y,eY,l3,g3⟩:=lins_of_trod h3
      obtain ⟨A4,c4,V,eV,l4,g4⟩:=ints_of_trod h4
      simp at eD eN eX eY eV
      subst eD eN eX eY eV
      exact ⟨D,N,A2,c2,X,A3,c3,Y,A4,c4,V,rfl,wD,wN,g2,l2,g3,l3,g4,l4⟩
end
end Go.Proofs.Ytkonljiembcdlaa.RowT
