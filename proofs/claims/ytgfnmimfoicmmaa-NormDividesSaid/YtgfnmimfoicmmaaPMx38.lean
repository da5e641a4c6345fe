import Derived.Test.YtgfnmimfoicmmaaPMx0
import Derived.Test.YtgfnmimfoicmmaaPMx1
import Derived.Test.YtgfnmimfoicmmaaPMx5
import Derived.Test.YtgfnmimfoicmmaaPMx7
import Derived.Test.YtgfnmimfoicmmaaPMx20
import Derived.Test.YtgfnmimfoicmmaaPMx37
namespace Go.Proofs.Ytgfnmimfoicmmaa.PM
open Go.Proofs.MyWords Go.RowKit Go.Proofs.YtgfnmimfoicmmaaW.PrintWords Go.Proofs.YtgfnmimfoicmmaaW.PrintLast Go.Proofs.YtgfnmimfoicmmaaW.PrintMore
set_option linter.unusedVariables false
set_option linter.unusedSimpArgs false
attribute [local go_sem] idx67_0 idx67_1 idx67_2 idx67_3
attribute [local go_sem] eqGuard_slices eqlnil36 neqnil36
attribute [local go_sem high] eqA23
/-! ### bellpulllaw04_NormDivides: function 3 -/
mutual
def bellpulllaw04_NormDivides.j0:Nat → Int → Int → Bool → Int → Int → Int → Int → Int → Int → Int → Int → Int → Int → Int → Int → Int → Int → Int → Int → Option (Bool)
  | 0,_,_,_,_,_,_,_,_,_,_,_,_,_,_,_,_,_,_,_=>none
  | k + 1,x7,x8,x28,x854000,x854001,x854002,x854003,x855000,x855001,x855002,x855003,x865000,x865001,x865002,x865003,x866000,x866001,x866002,x866003=>if x28=true then (bellpulllaw04_NormDivides.j1 k x7 5 x854000 x854001 x854002 x854003 x855000 x855001 x855002 x855003 x865000 x865001 x865002 x865003 x866000 x866001 x866002 x866003) else (bellpulllaw04_NormDivides.j1 k x7 x8 x854000 x854001 x854002 x854003 x855000 x855001 x855002 x855003 x865000 x865001 x865002 x865003 x866000 x866001 x866002 x866003)
def bellpulllaw04_NormDivides.j1:Nat → Int → Int → Int → Int → Int → Int → Int → Int → Int → Int → Int → Int → Int → Int → Int → Int → Int → Int → Option (Bool)
  | 0,_,_,_,_,_,_,_,_,_,_,_,_,_,_,_,_,_,_=>none
  | k + 1,x7,x8,x854000,x854001,x854002,x854003,x855000,x855001,x855002,x855003,x865000,x865001,x865002,x865003,x866000,x866001,x866002,x866003=>if x8=0 then ((bellpullref04_Divide.f k x854000 x854001 x854002 x854003 x855000 x855001 x855002 x855003).bind fun bt870=>(if (x865000 == bt870.1 && (x865001 == bt870.2.1 && (x865002 == bt870.2.2.1 && (x865003 == bt870.2.2.2.1))))=true then (if (x866000 == bt870.2.2.2.2.1 && (x866001 == bt870.2.2.2.2.2.1 && (x866002 == bt870.2.2.2.2.2.2.1 && (x866003 == bt870.2.2.2.2.2.2.2))))=true then (if x7=0 then ((bellpulllaw04_lives.f k).bind fun t880=>(some t880)) else (none)) else (none)) else (none))) else (if (x865000 == 0 && (x865001 == 0 && (x865002 == 0 && (x865003 == 0))))=true then (if (x866000 == 0 && (x866001 == 0 && (x866002 == 0 && (x866003 == 0))))=true then (if x7=x8 then ((bellpulllaw04_lives.f k).bind fun t881=>(some t881)) else (none)) else (none)) else (none))
end
def bellpulllaw04_NormDivides.f (k:Nat) (a0_0:Int) (a0_1:Int) (a0_2:Int) (a0_3:Int) (a1_0:Int) (a1_1:Int) (a1_2:Int) (a1_3:Int):Option (Bool):=(norm_Divide.f k a0_0 a0_1 a0_2 a0_3 a1_0 a1_1 a1_2 a1_3).bind fun bt855=>((bellpullref04_Check.f k (([(⟨a0_0,a0_1,a0_2,a0_3⟩:S23),(⟨a1_0,a1_1,a1_2,a1_3⟩:S23)]:List (S23)))).bind fun t869=>(if t869=0 then (bellpulllaw04_NormDivides.j0 k bt855.2.2.2.2.2.2.2.2 t869 (a1_0 == 0 && (a1_1 == 0 && (a1_2 == 0 && (a1_3 == 0)))) a0_0 a0_1 a0_2 a0_3 a1_0 a1_1 a1_2 a1_3 bt855.1 bt855.2.1 bt855.2.2.1 bt855.2.2.2.1 bt855.2.2.2.2.1 bt855.2.2.2.2.2.1 bt855.2.2.2.2.2.2.1 bt855.2.2.2.2.2.2.2.1) else (bellpulllaw04_NormDivides.j0 k bt855.2.2.2.2.2.2.2.2 t869 false a0_0 a0_1 a0_2 a0_3 a1_0 a1_1 a1_2 a1_3 bt855.1 bt855.2.1 bt855.2.2.1 bt855.2.2.2.1 bt855.2.2.2.2.1 bt855.2.2.2.2.2.1 bt855.2.2.2.2.2.2.1 bt855.2.2.2.2.2.2.2.1)))
theorem bellpulllaw04_NormDivides.mono_l:∀ k,(∀ y0 y1 y2 y3 y4 y5 y6 y7 y8 y9 y10 y11 y12 y13 y14 y15 y16 y17 y18,LeO (bellpulllaw04_NormDivides.j0 k y0 y1 y2 y3 y4 y5 y6 y7 y8 y9 y10 y11 y12 y13 y14 y15 y16 y17 y18) (bellpulllaw04_NormDivides.j0 (k + 1) y0 y1 y2 y3 y4 y5 y6 y7 y8 y9 y10 y11 y12 y13 y14 y15 y16 y17 y18))∧(∀ y0 y1 y2 y3 y4 y5 y6 y7 y8 y9 y10 y11 y12 y13 y14 y15 y16 y17,LeO (bellpulllaw04_NormDivides.j1 k y0 y1 y2 y3 y4 y5 y6 y7 y8 y9 y10 y11 y12 y13 y14 y15 y16 y17) (bellpulllaw04_NormDivides.j1 (k + 1) y0 y1 y2 y3 y4 y5 y6 y7 y8 y9 y10 y11 y12 y13 y14 y15 y16 y17))
  | 0=>⟨fun _ _ _ _ _ _ _ _ _ _ _ _ _ _ _ _ _ _ _ r h=>by simp [bellpulllaw04_NormDivides.j0] at h,fun _ _ _ _ _ _ _ _ _ _ _ _ _ _ _ _ _ _ r h=>by simp [bellpulllaw04_NormDivides.j1] at h⟩
  | k + 1=>by
    obtain ⟨ih0,ih1⟩:=bellpulllaw04_NormDivides.mono_l k
    refine ⟨?_,?_⟩
    · intro y0 y1 y2 y3 y4 y5 y6 y7 y8 y9 y10 y11 y12 y13 y14 y15 y16 y17 y18
      unfold bellpulllaw04_NormDivides.j0
      with_reducible repeat' first|exact ih0 _ _ _ _ _ _ _ _ _ _ _ _ _ _ _ _ _ _ _|exact ih1 _ _ _ _ _ _ _ _ _ _ _ _ _ _ _ _ _ _|exact bellpulllaw04_lives.mono _|exact bellpullref04_Check.mono _ _|exact bellpullref04_Divide.mono _ _ _ _ _ _ _ _ _|exact norm_Divide.mono _ _ _ _ _ _ _ _ _|exact LeO.refl _|exact LeO.none _|refine LeO.ite ?_ ?_|refine LeO.bind ?_ (fun _=>?_)
    · intro y0 y1 y2 y3 y4 y5 y6 y7 y8 y9 y10 y11 y12 y13 y14 y15 y16 y17
      unfold bellpulllaw04_NormDivides.j1
      with_reducible repeat' first|exact ih0 _ _ _ _ _ _ _ _ _ _ _ _ _ _ _ _ _ _ _|exact ih1 _ _ _ _ _ _ _ _ _ _ _ _ _ _ _ _ _ _|exact bellpulllaw04_lives.mono _|exact bellpullref04_Check.mono _ _|exact bellpullref04_Divide.mono _ _ _ _ _ _ _ _ _|exact norm_Divide.mono _ _ _ _ _ _ _ _ _|exact LeO.refl _|exact LeO.none _|refine LeO.ite ?_ ?_|refine LeO.bind ?_ (fun _=>?_)
theorem bellpulllaw04_NormDivides.mono:∀ a0 a1 a2 a3 a4 a5 a6 a7 k,LeO (bellpulllaw04_NormDivides.f k a0 a1 a2 a3 a4 a5 a6 a7) (bellpulllaw04_NormDivides.f (k + 1) a0 a1 a2 a3 a4 a5 a6 a7):=by
  intro a0 a1 a2 a3 a4 a5 a6 a7 k
  obtain ⟨ih0,ih1⟩:=bellpulllaw04_NormDivides.mono_l k
  unfold bellpulllaw04_NormDivides.f
  with_reducible repeat' first|exact ih0 _ _ _ _ _ _ _ _ _ _ _ _ _ _ _ _ _ _ _|exact ih1 _ _ _ _ _ _ _ _ _ _ _ _ _ _ _ _ _ _|exact bellpulllaw04_lives.mono _|exact bellpullref04_Check.mono _ _|exact bellpullref04_Divide.mono _ _ _ _ _ _ _ _ _|exact norm_Divide.mono _ _ _ _ _ _ _ _ _|exact LeO.refl _|exact LeO.none _|refine LeO.ite ?_ ?_|refine LeO.bind ?_ (fun _=>?_)
set_option maxHeartbeats 8000000 in
set_option maxRecDepth 100000 in
theorem bellpulllaw04_NormDivides.calls (k:Nat) (a0_0:Int) (a0_1:Int) (a0_2:Int) (a0_3:Int) (a1_0:Int) (a1_1:Int) (a1_2:Int) (a1_3:Int) (r:Bool) (w:World) (h:bellpulllaw04_NormDivides.f k a0_0 a0_1 a0_2 a0_3 a1_0 a1_1 a1_2 a1_3=some r) :
    Calls Try.prog 3 #[.agg #[.int .i64 a0_0,.int .i64 a0_1,.int .i64 a0_2,.int .i64 a0_3],.agg #[.int .i64 a1_0,.int .i64 a1_1,.int .i64 a1_2,.int .i64 a1_3]] w fun e w'=>e=.returned (.bool r)∧Below w.heap.size w w':=by
 have hu23:=Try.underlying23;have HB:=mk0 (Below.refl w.heap.size w);have H:((norm_Divide.f k a0_0 a0_1 a0_2 a0_3 a1_0 a1_1 a1_2 a1_3).bind fun bt855=>((bellpullref04_Check.f k (([(⟨a0_0,a0_1,a0_2,a0_3⟩:S23),(⟨a1_0,a1_1,a1_2,a1_3⟩:S23)]:List (S23)))).bind fun t869=>(if t869=0 then (bellpulllaw04_NormDivides.j0 k bt855.2.2.2.2.2.2.2.2 t869 (a1_0 == 0 && (a1_1 == 0 && (a1_2 == 0 && (a1_3 == 0)))) a0_0 a0_1 a0_2 a0_3 a1_0 a1_1 a1_2 a1_3 bt855.1 bt855.2.1 bt855.2.2.1 bt855.2.2.2.1 bt855.2.2.2.2.1 bt855.2.2.2.2.2.1 bt855.2.2.2.2.2.2.1 bt855.2.2.2.2.2.2.2.1) else (bellpulllaw04_NormDivides.j0 k bt855.2.2.2.2.2.2.2.2 t869 false a0_0 a0_1 a0_2 a0_3 a1_0 a1_1 a1_2 a1_3 bt855.1 bt855.2.1 bt855.2.2.1 bt855.2.2.2.1 bt855.2.2.2.2.1 bt855.2.2.2.2.2.1 bt855.2.2.2.2.2.2.1 bt855.2.2.2.2.2.2.2.1))))=some r:=h;clear h;replace H:=Option.bind_eq_some_iff.mp H;obtain ⟨⟨t855,t856,t857,t858,t859,t860,t861,t862,t863⟩,A30,H⟩:=H;(try dsimp only at H);have A3:=mk0 A30;clear A30;obtain ⟨y866,hy866⟩:∃ y_:List (S23),y_=(([(⟨a0_0,a0_1,a0_2,a0_3⟩:S23),(⟨a1_0,a1_1,a1_2,a1_3⟩:S23)]:List (S23))):=⟨_,rfl⟩
 replace H:((bellpullref04_Check.f k y866).bind fun t869=>(if t869=0 then (bellpulllaw04_NormDivides.j0 k t863 t869 (a1_0 == 0 && (a1_1 == 0 && (a1_2 == 0 && (a1_3 == 0)))) a0_0 a0_1 a0_2 a0_3 a1_0 a1_1 a1_2 a1_3 t855 t856 t857 t858 t859 t860 t861 t862) else (bellpulllaw04_NormDivides.j0 k t863 t869 false a0_0 a0_1 a0_2 a0_3 a1_0 a1_1 a1_2 a1_3 t855 t856 t857 t858 t859 t860 t861 t862)))=some r:=by first|(rw [hy866];with_reducible exact H)|(have H2_:=(Option.bind_some _ _).symm.trans H;rw [hy866];with_reducible exact H2_)|(have H2_:=(Option.bind_some _ _).symm.trans H;with_reducible exact H2_)|with_reducible exact H|(rw [hy866];exact H)|exact H
 have Ny866:=mk0 hy866;clear hy866;replace H:=Option.bind_eq_some_iff.mp H;obtain ⟨t869,A40,H⟩:=H;(try dsimp only at H);have A4:=mk0 A40;clear A40;have HC5:=mk0 H;clear H;go_enter Try.func3,Try.ntmps3;go_upto_region 3 with (first|((with_reducible refine gate_dst (N:=2) rfl ?_);refine box_event ?hg (N:=2) ?hd (cs:=#[.int .i64 a0_0,.int .i64 a0_1,.int .i64 a0_2,.int .i64 a0_3]) (t:=23) ?hr ?_;(case hd=>rfl);(case hg=>rfl);(case hr=>first|(go_simp;done)|(go_simp;rfl));intro gb853 hg w6 hbox hb;have BK853:=mk0 (hbox);have GW853:=szw hg HB;have GE853:=GW853;replace HB:=bst HB hb;clear hb hbox hg)|((with_reducible refine gate_dst (N:=3) rfl ?_);refine box_event ?hg (N:=3) ?hd (cs:=#[.int .i64 a1_0,.int .i64 a1_1,.int .i64 a1_2,.int .i64 a1_3]) (t:=23) ?hr ?_;(case hd=>rfl);(case hg=>rfl);(case hr=>first|(go_simp;done)|(go_simp;rfl));intro gb854 hg w7 hbox hb;have BK854:=mk0 (hbox);have GW854:=szw hg HB;have GE854:=GW854;have NB853_854:=nlt hg BK853;have NB854_853:=ngt hg BK853;replace BK853:=bkb BK853 hb;replace HB:=bst HB hb;clear hb hbox hg;have hnb8:=NB853_854.out;have hnc8:=NB854_853.out;have hcz9_0:w7.cell? ⟨gb853,0,none⟩=some (.int .i64 a0_0):=(blk_cell BK853.out 0).trans rfl;have hcz9_1:w7.cell? ⟨gb853,1,none⟩=some (.int .i64 a0_1):=(blk_cell BK853.out 1).trans rfl;have hcz9_2:w7.cell? ⟨gb853,2,none⟩=some (.int .i64 a0_2):=(blk_cell BK853.out 2).trans rfl;have hcz9_3:w7.cell? ⟨gb853,3,none⟩=some (.int .i64 a0_3):=(blk_cell BK853.out 3).trans rfl;have hfz9_0:=blk_frozen BK853.out 0;have hfz9_1:=blk_frozen BK853.out 1;have hfz9_2:=blk_frozen BK853.out 2;have hfz9_3:=blk_frozen BK853.out 3;have hcz10_0:w7.cell? ⟨gb854,0,none⟩=some (.int .i64 a1_0):=(blk_cell BK854.out 0).trans rfl;have hcz10_1:w7.cell? ⟨gb854,1,none⟩=some (.int .i64 a1_1):=(blk_cell BK854.out 1).trans rfl;have hcz10_2:w7.cell? ⟨gb854,2,none⟩=some (.int .i64 a1_2):=(blk_cell BK854.out 2).trans rfl;have hcz10_3:w7.cell? ⟨gb854,3,none⟩=some (.int .i64 a1_3):=(blk_cell BK854.out 3).trans rfl;have hfz10_0:=blk_frozen BK854.out 0;have hfz10_1:=blk_frozen BK854.out 1;have hfz10_2:=blk_frozen BK854.out 2;have hfz10_3:=blk_frozen BK854.out 3)|((with_reducible refine gate_callee (f:=17) rfl ?_);refine goesL_ (some 14) rfl rfl Try.func17 (by kernel_rfl) rfl #[.agg #[.int .i64 a0_0,.int .i64 a0_1,.int .i64 a0_2,.int .i64 a0_3],.agg #[.int .i64 a1_0,.int .i64 a1_1,.int .i64 a1_2,.int .i64 a1_3]] rfl (by (try simp only [List.map_toArray,List.map_cons,List.map_nil]);first|done|rfl) ?_;(with_reducible refine (norm_Divide.calls k a0_0 a0_1 a0_2 a0_3 a1_0 a1_1 a1_2 a1_3 t855 t856 t857 t858 t859 t860 t861 t862 t863 _ A3.out).mono ?_);rintro e w11 ⟨rfl,hb⟩;refine ⟨_,rfl,?_⟩;replace BK853:=bkb BK853 hb;replace BK854:=bkb BK854 hb;replace HB:=bst HB hb;(try clear hb);(try clear hk))|((with_reducible refine gate_dst (N:=5) rfl ?_);refine box_event ?hg (N:=5) ?hd (cs:=#[.int .i64 0,.int .i64 0,.int .i64 0,.int .i64 0]) (t:=23) ?hr ?_;(case hd=>rfl);(case hg=>rfl);(case hr=>first|(go_simp;done)|(go_simp;rfl));intro gb864 hg w12 hbox hb;have BK864:=mk0 (hbox);have GW864:=szw hg HB;have GE864:=GW864;have NB853_864:=nlt hg BK853;have NB864_853:=ngt hg BK853;have NB854_864:=nlt hg BK854;have NB864_854:=ngt hg BK854;replace BK853:=bkb BK853 hb;replace BK854:=bkb BK854 hb;replace HB:=bst HB hb;clear hb hbox hg)|((with_reducible refine gate_dst (N:=6) rfl ?_);refine box_event ?hg (N:=6) ?hd (cs:=#[.int .i64 0,.int .i64 0,.int .i64 0,.int .i64 0]) (t:=23) ?hr ?_;(case hd=>rfl);(case hg=>rfl);(case hr=>first|(go_simp;done)|(go_simp;rfl));intro gb865 hg w13 hbox hb;have BK865:=mk0 (hbox);have GW865:=szw hg HB;have GE865:=GW865;have NB853_865:=nlt hg BK853;have NB865_853:=ngt hg BK853;have NB854_865:=nlt hg BK854;have NB865_854:=ngt hg BK854;have NB864_865:=nlt hg BK864;have NB865_864:=ngt hg BK864;replace BK853:=bkb BK853 hb;replace BK854:=bkb BK854 hb;replace BK864:=bkb BK864 hb;replace HB:=bst HB hb;clear hb hbox hg;have hnb14:=NB864_853.out;have hnc14:=NB853_864.out;have hnb15:=NB864_854.out;have hnc15:=NB854_864.out;have hnb16:=NB864_865.out;have hnc16:=NB865_864.out;have hcz17_0:w13.cell? ⟨gb864,0,none⟩=some (.int .i64 0):=(blk_cell BK864.out 0).trans rfl;have hcz17_1:w13.cell? ⟨gb864,1,none⟩=some (.int .i64 0):=(blk_cell BK864.out 1).trans rfl;have hcz17_2:w13.cell? ⟨gb864,2,none⟩=some (.int .i64 0):=(blk_cell BK864.out 2).trans rfl;have hcz17_3:w13.cell? ⟨gb864,3,none⟩=some (.int .i64 0):=(blk_cell BK864.out 3).trans rfl;have hfz17_0:=blk_frozen BK864.out 0;have hfz17_1:=blk_frozen BK864.out 1;have hfz17_2:=blk_frozen BK864.out 2;have hfz17_3:=blk_frozen BK864.out 3;have hnb18:=NB865_853.out;have hnc18:=NB853_865.out;have hnb19:=NB865_854.out;have hnc19:=NB854_865.out;have hcz20_0:w13.cell? ⟨gb865,0,none⟩=some (.int .i64 0):=(blk_cell BK865.out 0).trans rfl;have hcz20_1:w13.cell? ⟨gb865,1,none⟩=some (.int .i64 0):=(blk_cell BK865.out 1).trans rfl;have hcz20_2:w13.cell? ⟨gb865,2,none⟩=some (.int .i64 0):=(blk_cell BK865.out 2).trans rfl;have hcz20_3:w13.cell? ⟨gb865,3,none⟩=some (.int .i64 0):=(blk_cell BK865.out 3).trans rfl;have hfz20_0:=blk_frozen BK865.out 0;have hfz20_1:=blk_frozen BK865.out 1;have hfz20_2:=blk_frozen BK865.out 2;have hfz20_3:=blk_frozen BK865.out 3;have hcz21_0:w13.cell? ⟨gb853,0,none⟩=some (.int .i64 a0_0):=(blk_cell BK853.out 0).trans rfl;have hcz21_1:w13.cell? ⟨gb853,1,none⟩=some (.int .i64 a0_1):=(blk_cell BK853.out 1).trans rfl;have hcz21_2:w13.cell? ⟨gb853,2,none⟩=some (.int .i64 a0_2):=(blk_cell BK853.out 2).trans rfl;have hcz21_3:w13.cell? ⟨gb853,3,none⟩=some (.int .i64 a0_3):=(blk_cell BK853.out 3).trans rfl;have hfz21_0:=blk_frozen BK853.out 0;have hfz21_1:=blk_frozen BK853.out 1;have hfz21_2:=blk_frozen BK853.out 2;have hfz21_3:=blk_frozen BK853.out 3;have hcz22_0:w13.cell? ⟨gb854,0,none⟩=some (.int .i64 a1_0):=(blk_cell BK854.out 0).trans rfl;have hcz22_1:w13.cell? ⟨gb854,1,none⟩=some (.int .i64 a1_1):=(blk_cell BK854.out 1).trans rfl;have hcz22_2:w13.cell? ⟨gb854,2,none⟩=some (.int .i64 a1_2):=(blk_cell BK854.out 2).trans rfl;have hcz22_3:w13.cell? ⟨gb854,3,none⟩=some (.int .i64 a1_3):=(blk_cell BK854.out 3).trans rfl;have hfz22_0:=blk_frozen BK854.out 0;have hfz22_1:=blk_frozen BK854.out 1;have hfz22_2:=blk_frozen BK854.out 2;have hfz22_3:=blk_frozen BK854.out 3)|((with_reducible refine gate_dst (N:=20) rfl ?_);refine Kd.R_lit k23 _ 23 ?hg (N:=20) ?hd (xs:=([(⟨a0_0,a0_1,a0_2,a0_3⟩:S23),(⟨a1_0,a1_1,a1_2,a1_3⟩:S23)]:List (S23))) (inner:=[.int .i64 a0_0,.int .i64 a0_1,.int .i64 a0_2,.int .i64 a0_3,.int .i64 a1_0,.int .i64 a1_1,.int .i64 a1_2,.int .i64 a1_3]) (ok:=fun _=>True) (okp:=fun _=>True) ?hr ?hp (fun _ hk=>hk) trivial (Below.refl _ _) (Nat.le_refl _) (by simp) ?_;(case hd=>rfl);(case hg=>rfl);(case hr=>first|(go_simp;done)|(go_simp;rfl));(case hp=>exact (Reps.c4 (show Kd.M k23 _ _ _ (⟨a0_0,a0_1,a0_2,a0_3⟩:S23) [.int .i64 a0_0,.int .i64 a0_1,.int .i64 a0_2,.int .i64 a0_3] from (k23_mkM _ _ _ (⟨a0_0,a0_1,a0_2,a0_3⟩:S23) )) (Reps.c4 (show Kd.M k23 _ _ _ (⟨a1_0,a1_1,a1_2,a1_3⟩:S23) [.int .i64 a1_0,.int .i64 a1_1,.int .i64 a1_2,.int .i64 a1_3] from (k23_mkM _ _ _ (⟨a1_0,a1_1,a1_2,a1_3⟩:S23) )) (Reps.none _ _))));intro v867 w23 ho24 hb hg_ hnew_;clear hg_ hnew_;(first|rw [← Ny866.out] at ho24|(simp only [Int.reduceToNat] at ho24;rw [← Ny866.out] at ho24));have HO868:=mk0 (Kd.R_lower (Kd.R_newB (Kd.R_newB (Kd.R_newB (Kd.R_newB ho24 (g:=gb853) (o:=.cells #[.int .i64 a0_0,.int .i64 a0_1,.int .i64 a0_2,.int .i64 a0_3] 23 (0,0)) (by (iterate 4 refine blk_far ?_ NB853_865.out _);(iterate 4 refine blk_far ?_ NB853_864.out _);exact BK853.out)) (g:=gb854) (o:=.cells #[.int .i64 a1_0,.int .i64 a1_1,.int .i64 a1_2,.int .i64 a1_3] 23 (0,0)) (by (iterate 4 refine blk_far ?_ NB854_865.out _);(iterate 4 refine blk_far ?_ NB854_864.out _);exact BK854.out)) (g:=gb864) (o:=.cells #[.int .i64 t855,.int .i64 t856,.int .i64 t857,.int .i64 t858] 23 (0,0)) (by (iterate 4 refine blk_far ?_ NB864_865.out _);refine blk_put (cs:=#[.int .i64 t855,.int .i64 t856,.int .i64 t857,.int .i64 0]) ?_ 3 _ rfl;refine blk_put (cs:=#[.int .i64 t855,.int .i64 t856,.int .i64 0,.int .i64 0]) ?_ 2 _ rfl;refine blk_put (cs:=#[.int .i64 t855,.int .i64 0,.int .i64 0,.int .i64 0]) ?_ 1 _ rfl;refine blk_put (cs:=#[.int .i64 0,.int .i64 0,.int .i64 0,.int .i64 0]) ?_ 0 _ rfl;exact BK864.out)) (g:=gb865) (o:=.cells #[.int .i64 t859,.int .i64 t860,.int .i64 t861,.int .i64 t862] 23 (0,0)) (by refine blk_put (cs:=#[.int .i64 t859,.int .i64 t860,.int .i64 t861,.int .i64 0]) ?_ 3 _ rfl;refine blk_put (cs:=#[.int .i64 t859,.int .i64 t860,.int .i64 0,.int .i64 0]) ?_ 2 _ rfl;refine blk_put (cs:=#[.int .i64 t859,.int .i64 0,.int .i64 0,.int .i64 0]) ?_ 1 _ rfl;refine blk_put (cs:=#[.int .i64 0,.int .i64 0,.int .i64 0,.int .i64 0]) ?_ 0 _ rfl;(iterate 4 refine blk_far ?_ NB865_864.out _);exact BK865.out)) (below_size (by repeat (with_reducible first|exact HB.out|refine below_set ?_ GE853.out|refine below_set ?_ GE854.out|refine below_set ?_ GE864.out|refine below_set ?_ GE865.out))));replace BK853:=mk0 (blk_below (g:=gb853) (o:=.cells #[.int .i64 a0_0,.int .i64 a0_1,.int .i64 a0_2,.int .i64 a0_3] 23 (0,0)) (by (iterate 4 refine blk_far ?_ NB853_865.out _);(iterate 4 refine blk_far ?_ NB853_864.out _);exact BK853.out) hb);replace BK854:=mk0 (blk_below (g:=gb854) (o:=.cells #[.int .i64 a1_0,.int .i64 a1_1,.int .i64 a1_2,.int .i64 a1_3] 23 (0,0)) (by (iterate 4 refine blk_far ?_ NB854_865.out _);(iterate 4 refine blk_far ?_ NB854_864.out _);exact BK854.out) hb);replace BK864:=mk0 (blk_below (g:=gb864) (o:=.cells #[.int .i64 t855,.int .i64 t856,.int .i64 t857,.int .i64 t858] 23 (0,0)) (by (iterate 4 refine blk_far ?_ NB864_865.out _);refine blk_put (cs:=#[.int .i64 t855,.int .i64 t856,.int .i64 t857,.int .i64 0]) ?_ 3 _ rfl;refine blk_put (cs:=#[.int .i64 t855,.int .i64 t856,.int .i64 0,.int .i64 0]) ?_ 2 _ rfl;refine blk_put (cs:=#[.int .i64 t855,.int .i64 0,.int .i64 0,.int .i64 0]) ?_ 1 _ rfl;refine blk_put (cs:=#[.int .i64 0,.int .i64 0,.int .i64 0,.int .i64 0]) ?_ 0 _ rfl;exact BK864.out) hb);replace BK865:=mk0 (blk_below (g:=gb865) (o:=.cells #[.int .i64 t859,.int .i64 t860,.int .i64 t861,.int .i64 t862] 23 (0,0)) (by refine blk_put (cs:=#[.int .i64 t859,.int .i64 t860,.int .i64 t861,.int .i64 0]) ?_ 3 _ rfl;refine blk_put (cs:=#[.int .i64 t859,.int .i64 t860,.int .i64 0,.int .i64 0]) ?_ 2 _ rfl;refine blk_put (cs:=#[.int .i64 t859,.int .i64 0,.int .i64 0,.int .i64 0]) ?_ 1 _ rfl;refine blk_put (cs:=#[.int .i64 0,.int .i64 0,.int .i64 0,.int .i64 0]) ?_ 0 _ rfl;(iterate 4 refine blk_far ?_ NB865_864.out _);exact BK865.out) hb);replace HB:=mk0 (below_step (by repeat (with_reducible first|exact HB.out|refine below_set ?_ GE853.out|refine below_set ?_ GE854.out|refine below_set ?_ GE864.out|refine below_set ?_ GE865.out)) hb);clear hb ho24;obtain ⟨Ao25,co25,eo25⟩:=Kd.R_slice HO868.out;subst eo25)|((with_reducible refine gate_callee (f:=18) rfl ?_);refine goesL_ (some 21) rfl rfl Try.func18 (by kernel_rfl) rfl #[.slice Ao25 y866.length co25] rfl (by (try simp only [List.map_toArray,List.map_cons,List.map_nil]);first|done|rfl) ?_;(with_reducible refine (bellpullref04_Check.calls k _ _ y866 t869 _ ?side1 ?side2 A4.out).mono ?_);(case side1=>repeat (first|exact (Kd.R_reads' HO868.out).2.2|(with_reducible refine Kd.C_alloc ?_ _)|(with_reducible refine Kd.C_drewN ?_ _)|(with_reducible refine Kd.C_drew ?_)));(case side2=>exact (Kd.R_reads' HO868.out).2.1);rintro e w26 ⟨rfl,hb⟩;refine ⟨_,rfl,?_⟩;replace HO868:=rbl HO868 hb;replace BK853:=bkb BK853 hb;replace BK854:=bkb BK854 hb;replace BK864:=bkb BK864 hb;replace BK865:=bkb BK865 hb;replace HB:=bst HB hb;(try clear hb);(try clear hk)))
 (try simp only [Act.put,List.setIfInBounds_toArray,List.set_cons_zero,List.set_cons_succ])
 go_cut [28] (fun v28 wc=>∃ (kq:Nat) (x28_4:Bool),v28=.bool x28_4∧Aside0 (bellpulllaw04_NormDivides.j0 kq t863 t869 x28_4 a0_0 a0_1 a0_2 a0_3 a1_0 a1_1 a1_2 a1_3 t855 t856 t857 t858 t859 t860 t861 t862=some r)∧Aside0 (kq ≤ k)∧Aside0 (wc.heap[gb853]?=some (.cells #[.int .i64 a0_0,.int .i64 a0_1,.int .i64 a0_2,.int .i64 a0_3] 23 (0,0)))∧Aside0 (wc.heap[gb854]?=some (.cells #[.int .i64 a1_0,.int .i64 a1_1,.int .i64 a1_2,.int .i64 a1_3] 23 (0,0)))∧Aside0 (wc.heap[gb864]?=some (.cells #[.int .i64 t855,.int .i64 t856,.int .i64 t857,.int .i64 t858] 23 (0,0)))∧Aside0 (wc.heap[gb865]?=some (.cells #[.int .i64 t859,.int .i64 t860,.int .i64 t861,.int .i64 t862] 23 (0,0)))∧Aside0 (Below w.heap.size w wc))
 case first =>
  have H:=HC5.out;clear HC5
  by_cases c27:t869=0
  ·
   rw [if_pos c27] at H;have c27b0:(t869 == 0)=true:=beq_iff_eq.mpr c27;have c27b1:(t869 != 0)=false:=bne_eq_false_iff_eq.mpr c27;clear c27;(first|rw [c27b0]|(simp only [i64_w,i32_w];rw [c27b0])|skip);have H':=mk0 H;clear H;have hnb28:=NB854_853.out;have hnc28:=NB853_854.out;have hnb29:=NB854_864.out;have hnc29:=NB864_854.out;have hnb30:=NB854_865.out;have hnc30:=NB865_854.out;have hcz31_0:w26.cell? ⟨gb854,0,none⟩=some (.int .i64 a1_0):=(blk_cell BK854.out 0).trans rfl;have hcz31_1:w26.cell? ⟨gb854,1,none⟩=some (.int .i64 a1_1):=(blk_cell BK854.out 1).trans rfl;have hcz31_2:w26.cell? ⟨gb854,2,none⟩=some (.int .i64 a1_2):=(blk_cell BK854.out 2).trans rfl;have hcz31_3:w26.cell? ⟨gb854,3,none⟩=some (.int .i64 a1_3):=(blk_cell BK854.out 3).trans rfl;have hfz31_0:=blk_frozen BK854.out 0;have hfz31_1:=blk_frozen BK854.out 1;have hfz31_2:=blk_frozen BK854.out 2;have hfz31_3:=blk_frozen BK854.out 3;go_wp2;go_meet
   case rel=>exact ⟨_,((a1_0 == 0 && (a1_1 == 0 && (a1_2 == 0 && (a1_3 == 0))))),(by first|rfl|(simp;done)|(simp [*];done)),H',⟨by first|omega|exact Nat.le_refl _⟩,⟨by exact BK853.out⟩,⟨by exact BK854.out⟩,⟨by exact BK864.out⟩,⟨by exact BK865.out⟩,⟨by repeat (first|(with_reducible first|exact HB.out|apply below_alloc|apply pw_below_drewN|apply below_drew1|refine below_set ?_ GE853.out|refine below_set ?_ GE854.out|refine below_set ?_ GE864.out|refine below_set ?_ GE865.out)|exact HB.out)⟩⟩
  ·
   rw [if_neg c27] at H;have c27b0:(t869 == 0)=false:=beq_eq_false_iff_ne.mpr c27;have c27b1:(t869 != 0)=true:=bne_iff_ne.mpr c27;(first|rw [c27b0]|(simp only [i64_w,i32_w];rw [c27b0])|skip);have H':=mk0 H;clear H;go_wp2;go_meet
   case rel=>exact ⟨_,(false),(by first|rfl|(simp;done)|(simp [*];done)),H',⟨by first|omega|exact Nat.le_refl _⟩,⟨by exact BK853.out⟩,⟨by exact BK854.out⟩,⟨by exact BK864.out⟩,⟨by exact BK865.out⟩,⟨by repeat (first|(with_reducible first|exact HB.out|apply below_alloc|apply pw_below_drewN|apply below_drew1|refine below_set ?_ GE853.out|refine below_set ?_ GE854.out|refine below_set ?_ GE864.out|refine below_set ?_ GE865.out)|exact HB.out)⟩⟩
 case rest =>
  clear HC5;try clear c1
  try clear c2
  try clear p2
  try clear c3
  try clear c4
  try clear c8
  try clear c14
  try clear c15
  try clear c16
  try clear c17
  try clear c18
  try clear c19
  try clear c27
  try clear c27b0
  try clear c27b1
  try clear c28
  try clear c29
  try clear c30
  try clear hcz10_0
  try clear hcz10_1
  try clear hcz10_2
  try clear hcz10_3
  try clear hcz17_0
  try clear hcz17_1
  try clear hcz17_2
  try clear hcz17_3
  try clear hcz20_0
  try clear hcz20_1
  try clear hcz20_2
  try clear hcz20_3
  try clear hcz21_0
  try clear hcz21_1
  try clear hcz21_2
  try clear hcz21_3
  try clear hcz22_0
  try clear hcz22_1
  try clear hcz22_2
  try clear hcz22_3
  try clear hcz31_0
  try clear hcz31_1
  try clear hcz31_2
  try clear hcz31_3
  try clear hcz9_0
  try clear hcz9_1
  try clear hcz9_2
  try clear hcz9_3
  try clear hfz10_0
  try clear hfz10_1
  try clear hfz10_2
  try clear hfz10_3
  try clear hfz17_0
  try clear hfz17_1
  try clear hfz17_2
  try clear hfz17_3
  try clear hfz20_0
  try clear hfz20_1
  try clear hfz20_2
  try clear hfz20_3
  try clear hfz21_0
  try clear hfz21_1
  try clear hfz21_2
  try clear hfz21_3
  try clear hfz22_0
  try clear hfz22_1
  try clear hfz22_2
  try clear hfz22_3
  try clear hfz31_0
  try clear hfz31_1
  try clear hfz31_2
  try clear hfz31_3
  try clear hfz9_0
  try clear hfz9_1
  try clear hfz9_2
  try clear hfz9_3
  obtain ⟨kq,x28_4,rfl,HA,HJ4,BK853,BK854,BK864,BK865,HB⟩:=hcut;cases kq with
  | zero=>exact absurd HA.out (by simp [bellpulllaw04_NormDivides.j0])
  | succ kj4 =>
   have H:=HA.out;clear HA;simp only [bellpulllaw04_NormDivides.j0] at H;have HC32:=mk0 H;clear H;go_upto_if 28 with (fail)
   go_cut [8] (fun v8 wc=>∃ (kq:Nat) (x8_31:Int),v8=.int .i64 x8_31∧Aside0 (bellpulllaw04_NormDivides.j1 kq t863 x8_31 a0_0 a0_1 a0_2 a0_3 a1_0 a1_1 a1_2 a1_3 t855 t856 t857 t858 t859 t860 t861 t862=some r)∧Aside0 (kq ≤ kj4)∧Aside0 (wc.heap[gb853]?=some (.cells #[.int .i64 a0_0,.int .i64 a0_1,.int .i64 a0_2,.int .i64 a0_3] 23 (0,0)))∧Aside0 (wc.heap[gb854]?=some (.cells #[.int .i64 a1_0,.int .i64 a1_1,.int .i64 a1_2,.int .i64 a1_3] 23 (0,0)))∧Aside0 (wc.heap[gb864]?=some (.cells #[.int .i64 t855,.int .i64 t856,.int .i64 t857,.int .i64 t858] 23 (0,0)))∧Aside0 (wc.heap[gb865]?=some (.cells #[.int .i64 t859,.int .i64 t860,.int .i64 t861,.int .i64 t862] 23 (0,0)))∧Aside0 (Below w.heap.size w wc))
   case first =>
    have H:=HC32.out;clear HC32
    by_cases c33:x28_4=true
    ·
     subst c33;have H1:(bellpulllaw04_NormDivides.j1 kj4 t863 5 a0_0 a0_1 a0_2 a0_3 a1_0 a1_1 a1_2 a1_3 t855 t856 t857 t858 t859 t860 t861 t862)=some r:=by rw [if_pos rfl] at H;exact H
     clear H;have H:=H1;clear H1;have H':=mk0 H;clear H;go_wp2;go_meet
     case rel=>exact ⟨_,(5),(by first|rfl|(simp;done)|(simp [*];done)),H',⟨by have:=HJ4.out;first|omega|exact Nat.le_refl _⟩,⟨by exact BK853.out⟩,⟨by exact BK854.out⟩,⟨by exact BK864.out⟩,⟨by exact BK865.out⟩,⟨by repeat (first|(with_reducible first|exact HB.out|apply below_alloc|apply pw_below_drewN|apply below_drew1|refine below_set ?_ GE853.out|refine below_set ?_ GE854.out|refine below_set ?_ GE864.out|refine below_set ?_ GE865.out)|exact HB.out)⟩⟩
    ·
     replace c33:=Bool.eq_false_iff.mpr c33;subst c33;have H1:(bellpulllaw04_NormDivides.j1 kj4 t863 t869 a0_0 a0_1 a0_2 a0_3 a1_0 a1_1 a1_2 a1_3 t855 t856 t857 t858 t859 t860 t861 t862)=some r:=by rw [if_neg (show ¬ (false=true) by decide)] at H;exact H
     clear H;have H:=H1;clear H1;have H':=mk0 H;clear H;go_wp2;go_meet
     case rel=>exact ⟨_,(t869),(by first|rfl|(simp;done)|(simp [*];done)),H',⟨by have:=HJ4.out;first|omega|exact Nat.le_refl _⟩,⟨by exact BK853.out⟩,⟨by exact BK854.out⟩,⟨by exact BK864.out⟩,⟨by exact BK865.out⟩,⟨by repeat (first|(with_reducible first|exact HB.out|apply below_alloc|apply pw_below_drewN|apply below_drew1|refine below_set ?_ GE853.out|refine below_set ?_ GE854.out|refine below_set ?_ GE864.out|refine below_set ?_ GE865.out)|exact HB.out)⟩⟩
   case rest =>
    clear HC32;try clear c1
    try clear c2
    try clear p2
    try clear c3
    try clear c4
    try clear c8
    try clear c14
    try clear c15
    try clear c16
    try clear c17
    try clear c18
    try clear c19
    try clear c27
    try clear c27b0
    try clear c27b1
    try clear c28
    try clear c29
    try clear c30
    try clear c33
    try clear hcz10_0
    try clear hcz10_1
    try clear hcz10_2
    try clear hcz10_3
    try clear hcz17_0
    try clear hcz17_1
    try clear hcz17_2
    try clear hcz17_3
    try clear hcz20_0
    try clear hcz20_1
    try clear hcz20_2
    try clear hcz20_3
    try clear hcz21_0
    try clear hcz21_1
    try clear hcz21_2
    try clear hcz21_3
    try clear hcz22_0
    try clear hcz22_1
    try clear hcz22_2
    try clear hcz22_3
    try clear hcz31_0
    try clear hcz31_1
    try clear hcz31_2
    try clear hcz31_3
    try clear hcz9_0
    try clear hcz9_1
    try clear hcz9_2
    try clear hcz9_3
    try clear hfz10_0
    try clear hfz10_1
    try clear hfz10_2
    try clear hfz10_3
    try clear hfz17_0
    try clear hfz17_1
    try clear hfz17_2
    try clear hfz17_3
    try clear hfz20_0
    try clear hfz20_1
    try clear hfz20_2
    try clear hfz20_3
    try clear hfz21_0
    try clear hfz21_1
    try clear hfz21_2
    try clear hfz21_3
    try clear hfz22_0
    try clear hfz22_1
    try clear hfz22_2
    try clear hfz22_3
    try clear hfz31_0
    try clear hfz31_1
    try clear hfz31_2
    try clear hfz31_3
    try clear hfz9_0
    try clear hfz9_1
    try clear hfz9_2
    try clear hfz9_3
    try clear p2
    obtain ⟨kq,x8_31,rfl,HA,HJ31,BK853,BK854,BK864,BK865,HB⟩:=hcut;cases kq with
    | zero=>exact absurd HA.out (by simp [bellpulllaw04_NormDivides.j1])
    | succ kj31 =>
     have H:=HA.out;clear HA;simp only [bellpulllaw04_NormDivides.j1] at H
     by_cases c34:x8_31=0
     ·
      rw [if_pos c34] at H;have c34b0:(x8_31 == 0)=true:=beq_iff_eq.mpr c34;have c34b1:(x8_31 != 0)=false:=bne_eq_false_iff_eq.mpr c34;clear c34;replace H:=Option.bind_eq_some_iff.mp H;obtain ⟨⟨t870,t871,t872,t873,t874,t875,t876,t877⟩,A350,H⟩:=H;(try dsimp only at H);have A35:=mk0 A350;clear A350
      by_cases c36:(t855 == t870 && (t856 == t871 && (t857 == t872 && (t858 == t873))))=true
      ·
       rw [if_pos c36] at H;have c36b0:(t855 == t870 && (t856 == t871 && (t857 == t872 && (t858 == t873))))=true:=c36;(try (have c36b1:decide (t855=t870 && (t856 == t871 && (t857 == t872 && (t858 == t873))))=true:=by simpa using c36));(try (have c36b2:(t855 == t870 && (t856 == t871 && (t857 == t872 && (t858 == t873))))=true:=by simpa using c36));clear c36
       by_cases c37:(t859 == t874 && (t860 == t875 && (t861 == t876 && (t862 == t877))))=true
       ·
        rw [if_pos c37] at H;have c37b0:(t859 == t874 && (t860 == t875 && (t861 == t876 && (t862 == t877))))=true:=c37;(try (have c37b1:decide (t859=t874 && (t860 == t875 && (t861 == t876 && (t862 == t877))))=true:=by simpa using c37));(try (have c37b2:(t859 == t874 && (t860 == t875 && (t861 == t876 && (t862 == t877))))=true:=by simpa using c37));clear c37
        by_cases c38:t863=0
        ·
         rw [if_pos c38] at H;have c38b0:(t863 == 0)=true:=beq_iff_eq.mpr c38;have c38b1:(t863 != 0)=false:=bne_eq_false_iff_eq.mpr c38;clear c38;replace H:=Option.bind_eq_some_iff.mp H;obtain ⟨t880,A390,H⟩:=H;(try dsimp only at H);have A39:=mk0 A390;clear A390;obtain rfl:=Option.some.inj H;have hnb40:=NB853_854.out;have hnc40:=NB854_853.out;have hnb41:=NB853_864.out;have hnc41:=NB864_853.out;have hnb42:=NB853_865.out;have hnc42:=NB865_853.out;have hcz43_0:wc.cell? ⟨gb853,0,none⟩=some (.int .i64 a0_0):=(blk_cell BK853.out 0).trans rfl;have hcz43_1:wc.cell? ⟨gb853,1,none⟩=some (.int .i64 a0_1):=(blk_cell BK853.out 1).trans rfl;have hcz43_2:wc.cell? ⟨gb853,2,none⟩=some (.int .i64 a0_2):=(blk_cell BK853.out 2).trans rfl;have hcz43_3:wc.cell? ⟨gb853,3,none⟩=some (.int .i64 a0_3):=(blk_cell BK853.out 3).trans rfl;have hfz43_0:=blk_frozen BK853.out 0;have hfz43_1:=blk_frozen BK853.out 1;have hfz43_2:=blk_frozen BK853.out 2;have hfz43_3:=blk_frozen BK853.out 3;have hnb44:=NB854_864.out;have hnc44:=NB864_854.out;have hnb45:=NB854_865.out;have hnc45:=NB865_854.out;have hcz46_0:wc.cell? ⟨gb854,0,none⟩=some (.int .i64 a1_0):=(blk_cell BK854.out 0).trans rfl;have hcz46_1:wc.cell? ⟨gb854,1,none⟩=some (.int .i64 a1_1):=(blk_cell BK854.out 1).trans rfl;have hcz46_2:wc.cell? ⟨gb854,2,none⟩=some (.int .i64 a1_2):=(blk_cell BK854.out 2).trans rfl;have hcz46_3:wc.cell? ⟨gb854,3,none⟩=some (.int .i64 a1_3):=(blk_cell BK854.out 3).trans rfl;have hfz46_0:=blk_frozen BK854.out 0;have hfz46_1:=blk_frozen BK854.out 1;have hfz46_2:=blk_frozen BK854.out 2;have hfz46_3:=blk_frozen BK854.out 3;go_wp2_with (first|((with_reducible refine gate_callee (f:=20) rfl ?_);refine goesL_ (some 50) rfl rfl Try.func20 (by kernel_rfl) rfl #[.agg #[.int .i64 a0_0,.int .i64 a0_1,.int .i64 a0_2,.int .i64 a0_3],.agg #[.int .i64 a1_0,.int .i64 a1_1,.int .i64 a1_2,.int .i64 a1_3]] rfl (by (try simp only [List.map_toArray,List.map_cons,List.map_nil]);first|done|rfl) ?_;(with_reducible refine (bellpullref04_Divide.calls kj31 a0_0 a0_1 a0_2 a0_3 a1_0 a1_1 a1_2 a1_3 t870 t871 t872 t873 t874 t875 t876 t877 _ A35.out).mono ?_);rintro e w47 ⟨rfl,hb⟩;refine ⟨_,rfl,?_⟩;replace BK853:=bkb BK853 hb;replace BK854:=bkb BK854 hb;replace BK864:=bkb BK864 hb;replace BK865:=bkb BK865 hb;replace HB:=bst HB hb;(try clear hb))|((with_reducible refine gate_dst (N:=9) rfl ?_);refine box_event ?hg (N:=9) ?hd (cs:=#[.int .i64 0,.int .i64 0,.int .i64 0,.int .i64 0]) (t:=23) ?hr ?_;(case hd=>rfl);(case hg=>rfl);(case hr=>first|(go_simp;done)|(go_simp;rfl));intro gb878 hg w48 hbox hb;have BK878:=mk0 (hbox);have GW878:=szw hg HB;have GE878:=GW878;have NB853_878:=nlt hg BK853;have NB878_853:=ngt hg BK853;have NB854_878:=nlt hg BK854;have NB878_854:=ngt hg BK854;have NB864_878:=nlt hg BK864;have NB878_864:=ngt hg BK864;have NB865_878:=nlt hg BK865;have NB878_865:=ngt hg BK865;replace BK853:=bkb BK853 hb;replace BK854:=bkb BK854 hb;replace BK864:=bkb BK864 hb;replace BK865:=bkb BK865 hb;replace HB:=bst HB hb;clear hb hbox hg)|((with_reducible refine gate_dst (N:=10) rfl ?_);refine box_event ?hg (N:=10) ?hd (cs:=#[.int .i64 0,.int .i64 0,.int .i64 0,.int .i64 0]) (t:=23) ?hr ?_;(case hd=>rfl);(case hg=>rfl);(case hr=>first|(go_simp;done)|(go_simp;rfl));intro gb879 hg w49 hbox hb;have BK879:=mk0 (hbox);have GW879:=szw hg HB;have GE879:=GW879;have NB853_879:=nlt hg BK853;have NB879_853:=ngt hg BK853;have NB854_879:=nlt hg BK854;have NB879_854:=ngt hg BK854;have NB864_879:=nlt hg BK864;have NB879_864:=ngt hg BK864;have NB865_879:=nlt hg BK865;have NB879_865:=ngt hg BK865;have NB878_879:=nlt hg BK878;have NB879_878:=ngt hg BK878;replace BK853:=bkb BK853 hb;replace BK854:=bkb BK854 hb;replace BK864:=bkb BK864 hb;replace BK865:=bkb BK865 hb;replace BK878:=bkb BK878 hb;replace HB:=bst HB hb;clear hb hbox hg;have hnb50:=NB878_853.out;have hnc50:=NB853_878.out;have hnb51:=NB878_854.out;have hnc51:=NB854_878.out;have hnb52:=NB878_864.out;have hnc52:=NB864_878.out;have hnb53:=NB878_865.out;have hnc53:=NB865_878.out;have hnb54:=NB878_879.out;have hnc54:=NB879_878.out;have hcz55_0:w49.cell? ⟨gb878,0,none⟩=some (.int .i64 0):=(blk_cell BK878.out 0).trans rfl;have hcz55_1:w49.cell? ⟨gb878,1,none⟩=some (.int .i64 0):=(blk_cell BK878.out 1).trans rfl;have hcz55_2:w49.cell? ⟨gb878,2,none⟩=some (.int .i64 0):=(blk_cell BK878.out 2).trans rfl;have hcz55_3:w49.cell? ⟨gb878,3,none⟩=some (.int .i64 0):=(blk_cell BK878.out 3).trans rfl;have hfz55_0:=blk_frozen BK878.out 0;have hfz55_1:=blk_frozen BK878.out 1;have hfz55_2:=blk_frozen BK878.out 2;have hfz55_3:=blk_frozen BK878.out 3;have hnb56:=NB879_853.out;have hnc56:=NB853_879.out;have hnb57:=NB879_854.out;have hnc57:=NB854_879.out;have hnb58:=NB879_864.out;have hnc58:=NB864_879.out;have hnb59:=NB879_865.out;have hnc59:=NB865_879.out;have hcz60_0:w49.cell? ⟨gb879,0,none⟩=some (.int .i64 0):=(blk_cell BK879.out 0).trans rfl;have hcz60_1:w49.cell? ⟨gb879,1,none⟩=some (.int .i64 0):=(blk_cell BK879.out 1).trans rfl;have hcz60_2:w49.cell? ⟨gb879,2,none⟩=some (.int .i64 0):=(blk_cell BK879.out 2).trans rfl;have hcz60_3:w49.cell? ⟨gb879,3,none⟩=some (.int .i64 0):=(blk_cell BK879.out 3).trans rfl;have hfz60_0:=blk_frozen BK879.out 0;have hfz60_1:=blk_frozen BK879.out 1;have hfz60_2:=blk_frozen BK879.out 2;have hfz60_3:=blk_frozen BK879.out 3;have hnb61:=NB864_865.out;have hnc61:=NB865_864.out;have hcz62_0:w49.cell? ⟨gb864,0,none⟩=some (.int .i64 t855):=(blk_cell BK864.out 0).trans rfl;have hcz62_1:w49.cell? ⟨gb864,1,none⟩=some (.int .i64 t856):=(blk_cell BK864.out 1).trans rfl;have hcz62_2:w49.cell? ⟨gb864,2,none⟩=some (.int .i64 t857):=(blk_cell BK864.out 2).trans rfl;have hcz62_3:w49.cell? ⟨gb864,3,none⟩=some (.int .i64 t858):=(blk_cell BK864.out 3).trans rfl;have hfz62_0:=blk_frozen BK864.out 0;have hfz62_1:=blk_frozen BK864.out 1;have hfz62_2:=blk_frozen BK864.out 2;have hfz62_3:=blk_frozen BK864.out 3;have hcz63_0:w49.cell? ⟨gb865,0,none⟩=some (.int .i64 t859):=(blk_cell BK865.out 0).trans rfl;have hcz63_1:w49.cell? ⟨gb865,1,none⟩=some (.int .i64 t860):=(blk_cell BK865.out 1).trans rfl;have hcz63_2:w49.cell? ⟨gb865,2,none⟩=some (.int .i64 t861):=(blk_cell BK865.out 2).trans rfl;have hcz63_3:w49.cell? ⟨gb865,3,none⟩=some (.int .i64 t862):=(blk_cell BK865.out 3).trans rfl;have hfz63_0:=blk_frozen BK865.out 0;have hfz63_1:=blk_frozen BK865.out 1;have hfz63_2:=blk_frozen BK865.out 2;have hfz63_3:=blk_frozen BK865.out 3)|(go_at_call 19;(with_reducible refine (bellpulllaw04_lives.calls kj31  t880 _ A39.out).mono ?_);rintro e w64 ⟨rfl,hb⟩;replace BK853:=mk0 (blk_below (g:=gb853) (o:=.cells #[.int .i64 a0_0,.int .i64 a0_1,.int .i64 a0_2,.int .i64 a0_3] 23 (0,0)) (by (iterate 4 refine blk_far ?_ NB853_879.out _);(iterate 4 refine blk_far ?_ NB853_878.out _);exact BK853.out) hb);replace BK854:=mk0 (blk_below (g:=gb854) (o:=.cells #[.int .i64 a1_0,.int .i64 a1_1,.int .i64 a1_2,.int .i64 a1_3] 23 (0,0)) (by (iterate 4 refine blk_far ?_ NB854_879.out _);(iterate 4 refine blk_far ?_ NB854_878.out _);exact BK854.out) hb);replace BK864:=mk0 (blk_below (g:=gb864) (o:=.cells #[.int .i64 t855,.int .i64 t856,.int .i64 t857,.int .i64 t858] 23 (0,0)) (by (iterate 4 refine blk_far ?_ NB864_879.out _);(iterate 4 refine blk_far ?_ NB864_878.out _);exact BK864.out) hb);replace BK865:=mk0 (blk_below (g:=gb865) (o:=.cells #[.int .i64 t859,.int .i64 t860,.int .i64 t861,.int .i64 t862] 23 (0,0)) (by (iterate 4 refine blk_far ?_ NB865_879.out _);(iterate 4 refine blk_far ?_ NB865_878.out _);exact BK865.out) hb);replace BK878:=mk0 (blk_below (g:=gb878) (o:=.cells #[.int .i64 t870,.int .i64 t871,.int .i64 t872,.int .i64 t873] 23 (0,0)) (by (iterate 4 refine blk_far ?_ NB878_879.out _);refine blk_put (cs:=#[.int .i64 t870,.int .i64 t871,.int .i64 t872,.int .i64 0]) ?_ 3 _ rfl;refine blk_put (cs:=#[.int .i64 t870,.int .i64 t871,.int .i64 0,.int .i64 0]) ?_ 2 _ rfl;refine blk_put (cs:=#[.int .i64 t870,.int .i64 0,.int .i64 0,.int .i64 0]) ?_ 1 _ rfl;refine blk_put (cs:=#[.int .i64 0,.int .i64 0,.int .i64 0,.int .i64 0]) ?_ 0 _ rfl;exact BK878.out) hb);replace BK879:=mk0 (blk_below (g:=gb879) (o:=.cells #[.int .i64 t874,.int .i64 t875,.int .i64 t876,.int .i64 t877] 23 (0,0)) (by refine blk_put (cs:=#[.int .i64 t874,.int .i64 t875,.int .i64 t876,.int .i64 0]) ?_ 3 _ rfl;refine blk_put (cs:=#[.int .i64 t874,.int .i64 t875,.int .i64 0,.int .i64 0]) ?_ 2 _ rfl;refine blk_put (cs:=#[.int .i64 t874,.int .i64 0,.int .i64 0,.int .i64 0]) ?_ 1 _ rfl;refine blk_put (cs:=#[.int .i64 0,.int .i64 0,.int .i64 0,.int .i64 0]) ?_ 0 _ rfl;(iterate 4 refine blk_far ?_ NB879_878.out _);exact BK879.out) hb);replace HB:=mk0 (below_step (by repeat (with_reducible first|exact HB.out|refine below_set ?_ GE853.out|refine below_set ?_ GE854.out|refine below_set ?_ GE864.out|refine below_set ?_ GE865.out|refine below_set ?_ GE878.out|refine below_set ?_ GE879.out)) hb);(try clear hb)))
         go_ret;exact ⟨by first|rfl|(simp [errW_none,errW_some] <;> rfl)|(simp [*,errW_none,errW_some] <;> rfl),by repeat (first|(with_reducible first|exact HB.out|apply below_alloc|apply pw_below_drewN|apply below_drew1|refine below_set ?_ GE853.out|refine below_set ?_ GE854.out|refine below_set ?_ GE864.out|refine below_set ?_ GE865.out|refine below_set ?_ GE878.out|refine below_set ?_ GE879.out)|exact HB.out)⟩
        ·
         rw [if_neg c38] at H;exact absurd H (by simp)
       ·
        rw [if_neg c37] at H;exact absurd H (by simp)
      ·
       rw [if_neg c36] at H;exact absurd H (by simp)
     ·
      rw [if_neg c34] at H;have c34b0:(x8_31 == 0)=false:=beq_eq_false_iff_ne.mpr c34;have c34b1:(x8_31 != 0)=true:=bne_iff_ne.mpr c34
      by_cases c65:(t855 == 0 && (t856 == 0 && (t857 == 0 && (t858 == 0))))=true
      ·
       rw [if_pos c65] at H;have c65b0:(t855 == 0 && (t856 == 0 && (t857 == 0 && (t858 == 0))))=true:=c65;(try (have c65b1:decide (t855=0 && (t856 == 0 && (t857 == 0 && (t858 == 0))))=true:=by simpa using c65));(try (have c65b2:(t855 == 0 && (t856 == 0 && (t857 == 0 && (t858 == 0))))=true:=by simpa using c65));clear c65
       by_cases c66:(t859 == 0 && (t860 == 0 && (t861 == 0 && (t862 == 0))))=true
       ·
        rw [if_pos c66] at H;have c66b0:(t859 == 0 && (t860 == 0 && (t861 == 0 && (t862 == 0))))=true:=c66;(try (have c66b1:decide (t859=0 && (t860 == 0 && (t861 == 0 && (t862 == 0))))=true:=by simpa using c66));(try (have c66b2:(t859 == 0 && (t860 == 0 && (t861 == 0 && (t862 == 0))))=true:=by simpa using c66));clear c66
        by_cases c67:t863=x8_31
        ·
         rw [if_pos c67] at H;have c67b0:(t863 == x8_31)=true:=beq_iff_eq.mpr c67;have c67b1:(t863 != x8_31)=false:=bne_eq_false_iff_eq.mpr c67;clear c67;replace H:=Option.bind_eq_some_iff.mp H;obtain ⟨t881,A680,H⟩:=H;(try dsimp only at H);have A68:=mk0 A680;clear A680;obtain rfl:=Option.some.inj H;have hnb69:=NB864_853.out;have hnc69:=NB853_864.out;have hnb70:=NB864_854.out;have hnc70:=NB854_864.out;have hnb71:=NB864_865.out;have hnc71:=NB865_864.out;have hcz72_0:wc.cell? ⟨gb864,0,none⟩=some (.int .i64 t855):=(blk_cell BK864.out 0).trans rfl;have hcz72_1:wc.cell? ⟨gb864,1,none⟩=some (.int .i64 t856):=(blk_cell BK864.out 1).trans rfl;have hcz72_2:wc.cell? ⟨gb864,2,none⟩=some (.int .i64 t857):=(blk_cell BK864.out 2).trans rfl;have hcz72_3:wc.cell? ⟨gb864,3,none⟩=some (.int .i64 t858):=(blk_cell BK864.out 3).trans rfl;have hfz72_0:=blk_frozen BK864.out 0;have hfz72_1:=blk_frozen BK864.out 1;have hfz72_2:=blk_frozen BK864.out 2;have hfz72_3:=blk_frozen BK864.out 3;have hnb73:=NB865_853.out;have hnc73:=NB853_865.out;have hnb74:=NB865_854.out;have hnc74:=NB854_865.out;have hcz75_0:wc.cell? ⟨gb865,0,none⟩=some (.int .i64 t859):=(blk_cell BK865.out 0).trans rfl;have hcz75_1:wc.cell? ⟨gb865,1,none⟩=some (.int .i64 t860):=(blk_cell BK865.out 1).trans rfl;have hcz75_2:wc.cell? ⟨gb865,2,none⟩=some (.int .i64 t861):=(blk_cell BK865.out 2).trans rfl;have hcz75_3:wc.cell? ⟨gb865,3,none⟩=some (.int .i64 t862):=(blk_cell BK865.out 3).trans rfl;have hfz75_0:=blk_frozen BK865.out 0;have hfz75_1:=blk_frozen BK865.out 1;have hfz75_2:=blk_frozen BK865.out 2;have hfz75_3:=blk_frozen BK865.out 3;go_wp2_with (first|(go_at_call 19;(with_reducible refine (bellpulllaw04_lives.calls kj31  t881 _ A68.out).mono ?_);rintro e w76 ⟨rfl,hb⟩;replace BK853:=bkb BK853 hb;replace BK854:=bkb BK854 hb;replace BK864:=bkb BK864 hb;replace BK865:=bkb BK865 hb;replace HB:=bst HB hb;(try clear hb)));go_ret;exact ⟨by first|rfl|(simp [errW_none,errW_some] <;> rfl)|(simp [*,errW_none,errW_some] <;> rfl),by repeat (first|(with_reducible first|exact HB.out|apply below_alloc|apply pw_below_drewN|apply below_drew1|refine below_set ?_ GE853.out|refine below_set ?_ GE854.out|refine below_set ?_ GE864.out|refine below_set ?_ GE865.out)|exact HB.out)⟩
        ·
         rw [if_neg c67] at H;exact absurd H (by simp)
       ·
        rw [if_neg c66] at H;exact absurd H (by simp)
      ·
       rw [if_neg c65] at H;exact absurd H (by simp)
end Go.Proofs.Ytgfnmimfoicmmaa.PM
