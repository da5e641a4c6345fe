-- Written by pr2.py, a program of this session's, for this claim (through the kit's print).
import Derived.Test.YtgfnmimfoicmmaaPMx0
import Derived.Test.YtgfnmimfoicmmaaPMx2
import Derived.Test.YtgfnmimfoicmmaaPMx3
import Derived.Test.YtgfnmimfoicmmaaPMx4
import Derived.Test.YtgfnmimfoicmmaaPMx5
namespace Go.Proofs.Ytgfnmimfoicmmaa.PM
open Go.Proofs.MyWords Go.RowKit Go.Proofs.YtgfnmimfoicmmaaW.PrintWords Go.Proofs.YtgfnmimfoicmmaaW.PrintLast Go.Proofs.YtgfnmimfoicmmaaW.PrintMore
attribute [local go_sem] max2_int min2_int max_two min_two max_three min_three max_four min_four   -- for this text's walks alone
set_option linter.unusedVariables false
set_option linter.unusedSimpArgs false

attribute [local go_sem] idx67_0 idx67_1 idx67_2 idx67_3
attribute [local go_sem] eqGuard_slices eqlnil36 neqnil36
attribute [local go_sem high] eqA67
/-! ### norm_Gcd: function 21 -/
mutual
def norm_Gcd.j0:Nat → Bool → Int → Int → Int → Int → Int → Int → Int → Int → Option (Int × Int × Int × Int × Int)
  | 0,_,_,_,_,_,_,_,_,_=>none
  | k + 1,x34,x241000,x241001,x241002,x241003,x242000,x242001,x242002,x242003=>if x34=true then (some (0,0,0,0,5)) else (norm_Gcd.l0 k x241000 x241001 x241002 x241003 x242000 x242001 x242002 x242003)
def norm_Gcd.l0:Nat → Int → Int → Int → Int → Int → Int → Int → Int → Option (Int × Int × Int × Int × Int)
  | 0,_,_,_,_,_,_,_,_=>none
  | k + 1,x241000,x241001,x241002,x241003,x242000,x242001,x242002,x242003=>if (!(x242000 == 0) || (!(x242001 == 0) || (!(x242002 == 0) || (!(x242003 == 0)))))=true then ((norm_divide.f k x241000 x241001 x241002 x241003 x242000 x242001 x242002 x242003).bind fun bt242=>(norm_Gcd.l0 k x242000 x242001 x242002 x242003 bt242.2.2.2.2.1 bt242.2.2.2.2.2.1 bt242.2.2.2.2.2.2.1 bt242.2.2.2.2.2.2.2)) else ((norm_units.f k).bind fun t253=>(norm_Gcd.l1 k t253 (t253.length:Int) 0 x241000 x241001 x241002 x241003 x241000 x241001 x241002 x241003))
def norm_Gcd.l1:Nat → List (S67) → Int → Int → Int → Int → Int → Int → Int → Int → Int → Int → Option (Int × Int × Int × Int × Int)
  | 0,_,_,_,_,_,_,_,_,_,_,_=>none
  | k + 1,x48,x49,x50,x241000,x241001,x241002,x241003,x253000,x253001,x253002,x253003=>if x50 < x49 then (if 0 ≤ x50 then (if x50 < (x48.length:Int) then ((norm_product.f k (([(⟨(rd_T67 x48 x50).f0,(rd_T67 x48 x50).f1,(rd_T67 x48 x50).f2,(rd_T67 x48 x50).f3⟩:S67),(⟨x241000,x241001,x241002,x241003⟩:S67)]:List (S67)))).bind fun bt265=>((slices_Compare_int_int.f k [bt265.1,bt265.2.1,bt265.2.2.1,bt265.2.2.2] [x253000,x253001,x253002,x253003]).bind fun t270=>(if t270 > 0 then (norm_Gcd.l1 k x48 x49 (wrap64 (x50 + 1)) x241000 x241001 x241002 x241003 bt265.1 bt265.2.1 bt265.2.2.1 bt265.2.2.2) else (norm_Gcd.l1 k x48 x49 (wrap64 (x50 + 1)) x241000 x241001 x241002 x241003 x253000 x253001 x253002 x253003)))) else (none)) else (none)) else ((norm_quat_api.f x253000 x253001 x253002 x253003).bind fun bt256=>(some (bt256.1,bt256.2.1,bt256.2.2.1,bt256.2.2.2,0)))
end
def norm_Gcd.f (k:Nat) (a0_0:Int) (a0_1:Int) (a0_2:Int) (a0_3:Int) (a1_0:Int) (a1_1:Int) (a1_2:Int) (a1_3:Int):Option (Int × Int × Int × Int × Int):=(norm_check.f k (([(⟨a0_0,a0_1,a0_2,a0_3⟩:S23),(⟨a1_0,a1_1,a1_2,a1_3⟩:S23)]:List (S23)))).bind fun t231=>(if t231=0 then ((norm_of.f a0_0 a0_1 a0_2 a0_3).bind fun bt232=>((norm_of.f a1_0 a1_1 a1_2 a1_3).bind fun bt236=>(if (bt232.1 == 0 && (bt232.2.1 == 0 && (bt232.2.2.1 == 0 && (bt232.2.2.2 == 0))))=true then (norm_Gcd.j0 k (bt236.1 == 0 && (bt236.2.1 == 0 && (bt236.2.2.1 == 0 && (bt236.2.2.2 == 0)))) bt232.1 bt232.2.1 bt232.2.2.1 bt232.2.2.2 bt236.1 bt236.2.1 bt236.2.2.1 bt236.2.2.2) else (norm_Gcd.j0 k false bt232.1 bt232.2.1 bt232.2.2.1 bt232.2.2.2 bt236.1 bt236.2.1 bt236.2.2.1 bt236.2.2.2)))) else (some (0,0,0,0,t231)))
theorem norm_Gcd.mono_l:∀ k,(∀ y0 y1 y2 y3 y4 y5 y6 y7 y8,LeO (norm_Gcd.j0 k y0 y1 y2 y3 y4 y5 y6 y7 y8) (norm_Gcd.j0 (k + 1) y0 y1 y2 y3 y4 y5 y6 y7 y8))∧(∀ y0 y1 y2 y3 y4 y5 y6 y7,LeO (norm_Gcd.l0 k y0 y1 y2 y3 y4 y5 y6 y7) (norm_Gcd.l0 (k + 1) y0 y1 y2 y3 y4 y5 y6 y7))∧(∀ y0 y1 y2 y3 y4 y5 y6 y7 y8 y9 y10,LeO (norm_Gcd.l1 k y0 y1 y2 y3 y4 y5 y6 y7 y8 y9 y10) (norm_Gcd.l1 (k + 1) y0 y1 y2 y3 y4 y5 y6 y7 y8 y9 y10))
  | 0=>⟨fun _ _ _ _ _ _ _ _ _ r h=>by simp [norm_Gcd.j0] at h,fun _ _ _ _ _ _ _ _ r h=>by simp [norm_Gcd.l0] at h,fun _ _ _ _ _ _ _ _ _ _ _ r h=>by simp [norm_Gcd.l1] at h⟩
  | k + 1=>by
    obtain ⟨ih0,ih1,ih2⟩:=norm_Gcd.mono_l k
    refine ⟨?_,?_,?_⟩
    · intro y0 y1 y2 y3 y4 y5 y6 y7 y8
      unfold norm_Gcd.j0
      with_reducible repeat' first|exact ih0 _ _ _ _ _ _ _ _ _|exact ih1 _ _ _ _ _ _ _ _|exact ih2 _ _ _ _ _ _ _ _ _ _ _|exact norm_check.mono _ _|exact norm_divide.mono _ _ _ _ _ _ _ _ _|exact norm_product.mono _ _|exact norm_units.mono _|exact slices_Compare_int_int.mono _ _ _|exact LeO.refl _|exact LeO.none _|refine LeO.ite ?_ ?_|refine LeO.bind ?_ (fun _=>?_)
    · intro y0 y1 y2 y3 y4 y5 y6 y7
      unfold norm_Gcd.l0
      with_reducible repeat' first|exact ih0 _ _ _ _ _ _ _ _ _|exact ih1 _ _ _ _ _ _ _ _|exact ih2 _ _ _ _ _ _ _ _ _ _ _|exact norm_check.mono _ _|exact norm_divide.mono _ _ _ _ _ _ _ _ _|exact norm_product.mono _ _|exact norm_units.mono _|exact slices_Compare_int_int.mono _ _ _|exact LeO.refl _|exact LeO.none _|refine LeO.ite ?_ ?_|refine LeO.bind ?_ (fun _=>?_)
    · intro y0 y1 y2 y3 y4 y5 y6 y7 y8 y9 y10
      unfold norm_Gcd.l1
      with_reducible repeat' first|exact ih0 _ _ _ _ _ _ _ _ _|exact ih1 _ _ _ _ _ _ _ _|exact ih2 _ _ _ _ _ _ _ _ _ _ _|exact norm_check.mono _ _|exact norm_divide.mono _ _ _ _ _ _ _ _ _|exact norm_product.mono _ _|exact norm_units.mono _|exact slices_Compare_int_int.mono _ _ _|exact LeO.refl _|exact LeO.none _|refine LeO.ite ?_ ?_|refine LeO.bind ?_ (fun _=>?_)
theorem norm_Gcd.mono:∀ a0 a1 a2 a3 a4 a5 a6 a7 k,LeO (norm_Gcd.f k a0 a1 a2 a3 a4 a5 a6 a7) (norm_Gcd.f (k + 1) a0 a1 a2 a3 a4 a5 a6 a7):=by
  intro a0 a1 a2 a3 a4 a5 a6 a7 k
  obtain ⟨ih0,ih1,ih2⟩:=norm_Gcd.mono_l k
  unfold norm_Gcd.f
  with_reducible repeat' first|exact ih0 _ _ _ _ _ _ _ _ _|exact ih1 _ _ _ _ _ _ _ _|exact ih2 _ _ _ _ _ _ _ _ _ _ _|exact norm_check.mono _ _|exact norm_divide.mono _ _ _ _ _ _ _ _ _|exact norm_product.mono _ _|exact norm_units.mono _|exact slices_Compare_int_int.mono _ _ _|exact LeO.refl _|exact LeO.none _|refine LeO.ite ?_ ?_|refine LeO.bind ?_ (fun _=>?_)
def norm_Gcd.T4:Bool × List (List Nat × List Nat):=(true,[([],[]),([0],[0]),([],[]),([2,1],[2]),([],[]),([],[]),([4,1,3,0,1,4,5],[1,4]),([5,3,6,0,1,2,3,4,5,6],[3,5])])
def norm_Gcd.B4:List Nat:=[0,1,0,7,0,0,63,127]
theorem norm_Gcd.tab4:rtab .any (opsOf Try.f21 4)=norm_Gcd.T4:=by kernel_rfl
theorem norm_Gcd.bits4:waitsOk norm_Gcd.T4.2 norm_Gcd.B4=true:=by kernel_rfl
set_option maxHeartbeats 8000000 in
set_option maxRecDepth 100000 in
theorem norm_Gcd.calls (k:Nat) (a0_0:Int) (a0_1:Int) (a0_2:Int) (a0_3:Int) (a1_0:Int) (a1_1:Int) (a1_2:Int) (a1_3:Int) (r1:Int) (r2:Int) (r3:Int) (r4:Int) (r5:Int) (w:World) (h:norm_Gcd.f k a0_0 a0_1 a0_2 a0_3 a1_0 a1_1 a1_2 a1_3=some (r1,r2,r3,r4,r5)) :
    Calls Try.prog 21 #[.agg #[.int .i64 a0_0,.int .i64 a0_1,.int .i64 a0_2,.int .i64 a0_3],.agg #[.int .i64 a1_0,.int .i64 a1_1,.int .i64 a1_2,.int .i64 a1_3]] w fun e w'=>e=.returned (.tuple #[.agg #[.int .i64 r1,.int .i64 r2,.int .i64 r3,.int .i64 r4],.int .i64 r5])∧Below w.heap.size w w':=by
 have hu23:=Try.underlying23;have hu67:=Try.underlying67;have HB:=mk0 (Below.refl w.heap.size w);have H:((norm_check.f k (([(⟨a0_0,a0_1,a0_2,a0_3⟩:S23),(⟨a1_0,a1_1,a1_2,a1_3⟩:S23)]:List (S23)))).bind fun t231=>(if t231=0 then ((norm_of.f a0_0 a0_1 a0_2 a0_3).bind fun bt232=>((norm_of.f a1_0 a1_1 a1_2 a1_3).bind fun bt236=>(if (bt232.1 == 0 && (bt232.2.1 == 0 && (bt232.2.2.1 == 0 && (bt232.2.2.2 == 0))))=true then (norm_Gcd.j0 k (bt236.1 == 0 && (bt236.2.1 == 0 && (bt236.2.2.1 == 0 && (bt236.2.2.2 == 0)))) bt232.1 bt232.2.1 bt232.2.2.1 bt232.2.2.2 bt236.1 bt236.2.1 bt236.2.2.1 bt236.2.2.2) else (norm_Gcd.j0 k false bt232.1 bt232.2.1 bt232.2.2.1 bt232.2.2.2 bt236.1 bt236.2.1 bt236.2.2.1 bt236.2.2.2)))) else (some (0,0,0,0,t231))))=some (r1,r2,r3,r4,r5):=h;clear h;obtain ⟨y228,hy228⟩:∃ y_:List (S23),y_=(([(⟨a0_0,a0_1,a0_2,a0_3⟩:S23),(⟨a1_0,a1_1,a1_2,a1_3⟩:S23)]:List (S23))):=⟨_,rfl⟩
 replace H:((norm_check.f k y228).bind fun t231=>(if t231=0 then ((norm_of.f a0_0 a0_1 a0_2 a0_3).bind fun bt232=>((norm_of.f a1_0 a1_1 a1_2 a1_3).bind fun bt236=>(if (bt232.1 == 0 && (bt232.2.1 == 0 && (bt232.2.2.1 == 0 && (bt232.2.2.2 == 0))))=true then (norm_Gcd.j0 k (bt236.1 == 0 && (bt236.2.1 == 0 && (bt236.2.2.1 == 0 && (bt236.2.2.2 == 0)))) bt232.1 bt232.2.1 bt232.2.2.1 bt232.2.2.2 bt236.1 bt236.2.1 bt236.2.2.1 bt236.2.2.2) else (norm_Gcd.j0 k false bt232.1 bt232.2.1 bt232.2.2.1 bt232.2.2.2 bt236.1 bt236.2.1 bt236.2.2.1 bt236.2.2.2)))) else (some (0,0,0,0,t231))))=some (r1,r2,r3,r4,r5):=by first|(rw [hy228];with_reducible exact H)|(have H2_:=(Option.bind_some _ _).symm.trans H;rw [hy228];with_reducible exact H2_)|(have H2_:=(Option.bind_some _ _).symm.trans H;with_reducible exact H2_)|with_reducible exact H|(rw [hy228];exact H)|exact H
 have Ny228:=mk0 hy228;clear hy228;replace H:=Option.bind_eq_some_iff.mp H;obtain ⟨t231,A30,H⟩:=H;(try dsimp only at H);have A3:=mk0 A30;clear A30
 by_cases c4:t231=0
 ·
  rw [if_pos c4] at H;have c4b0:(t231 == 0)=true:=beq_iff_eq.mpr c4;have c4b1:(t231 != 0)=false:=bne_eq_false_iff_eq.mpr c4;clear c4;replace H:=Option.bind_eq_some_iff.mp H;obtain ⟨⟨t232,t233,t234,t235⟩,A50,H⟩:=H;(try dsimp only at H);have A5:=mk0 A50;clear A50;replace H:=Option.bind_eq_some_iff.mp H;obtain ⟨⟨t236,t237,t238,t239⟩,A60,H⟩:=H;(try dsimp only at H);have A6:=mk0 A60;clear A60;have HC7:=mk0 H;clear H;go_enter Try.func21,Try.ntmps21;try go_wp2_with (first|((with_reducible refine gate_dst (N:=2) rfl ?_);refine box_event ?hg (N:=2) ?hd (cs:=#[.int .i64 a0_0,.int .i64 a0_1,.int .i64 a0_2,.int .i64 a0_3]) (t:=23) ?hr ?_;(case hd=>rfl);(case hg=>rfl);(case hr=>first|(go_simp;done)|(go_simp;rfl));intro gb225 hg w8 hbox hb;have BK225:=mk0 (hbox);have GW225:=szw hg HB;have GE225:=GW225;replace HB:=bst HB hb;clear hb hbox hg)|((with_reducible refine gate_dst (N:=3) rfl ?_);refine box_event ?hg (N:=3) ?hd (cs:=#[.int .i64 a1_0,.int .i64 a1_1,.int .i64 a1_2,.int .i64 a1_3]) (t:=23) ?hr ?_;(case hd=>rfl);(case hg=>rfl);(case hr=>first|(go_simp;done)|(go_simp;rfl));intro gb226 hg w9 hbox hb;have BK226:=mk0 (hbox);have GW226:=szw hg HB;have GE226:=GW226;have NB225_226:=nlt hg BK225;have NB226_225:=ngt hg BK225;replace BK225:=bkb BK225 hb;replace HB:=bst HB hb;clear hb hbox hg)|((with_reducible refine gate_dst (N:=4) rfl ?_);refine box_event ?hg (N:=4) ?hd (cs:=#[.int .i64 0,.int .i64 0,.int .i64 0,.int .i64 0]) (t:=23) ?hr ?_;(case hd=>rfl);(case hg=>rfl);(case hr=>first|(go_simp;done)|(go_simp;rfl));intro gb227 hg w10 hbox hb;have BK227:=mk0 (hbox);have GW227:=szw hg HB;have GE227:=GW227;have NB225_227:=nlt hg BK225;have NB227_225:=ngt hg BK225;have NB226_227:=nlt hg BK226;have NB227_226:=ngt hg BK226;replace BK225:=bkb BK225 hb;replace BK226:=bkb BK226 hb;replace HB:=bst HB hb;clear hb hbox hg;have hnb11:=NB225_226.out;have hnc11:=NB226_225.out;have hnb12:=NB225_227.out;have hnc12:=NB227_225.out;have hcz13_0:w10.cell? ⟨gb225,0,none⟩=some (.int .i64 a0_0):=(blk_cell BK225.out 0).trans rfl;have hcz13_1:w10.cell? ⟨gb225,1,none⟩=some (.int .i64 a0_1):=(blk_cell BK225.out 1).trans rfl;have hcz13_2:w10.cell? ⟨gb225,2,none⟩=some (.int .i64 a0_2):=(blk_cell BK225.out 2).trans rfl;have hcz13_3:w10.cell? ⟨gb225,3,none⟩=some (.int .i64 a0_3):=(blk_cell BK225.out 3).trans rfl;have hfz13_0:=blk_frozen BK225.out 0;have hfz13_1:=blk_frozen BK225.out 1;have hfz13_2:=blk_frozen BK225.out 2;have hfz13_3:=blk_frozen BK225.out 3;have hnb14:=NB226_227.out;have hnc14:=NB227_226.out;have hcz15_0:w10.cell? ⟨gb226,0,none⟩=some (.int .i64 a1_0):=(blk_cell BK226.out 0).trans rfl;have hcz15_1:w10.cell? ⟨gb226,1,none⟩=some (.int .i64 a1_1):=(blk_cell BK226.out 1).trans rfl;have hcz15_2:w10.cell? ⟨gb226,2,none⟩=some (.int .i64 a1_2):=(blk_cell BK226.out 2).trans rfl;have hcz15_3:w10.cell? ⟨gb226,3,none⟩=some (.int .i64 a1_3):=(blk_cell BK226.out 3).trans rfl;have hfz15_0:=blk_frozen BK226.out 0;have hfz15_1:=blk_frozen BK226.out 1;have hfz15_2:=blk_frozen BK226.out 2;have hfz15_3:=blk_frozen BK226.out 3)|((with_reducible refine gate_dst (N:=17) rfl ?_);refine Kd.R_lit k23 _ 23 ?hg (N:=17) ?hd (xs:=([(⟨a0_0,a0_1,a0_2,a0_3⟩:S23),(⟨a1_0,a1_1,a1_2,a1_3⟩:S23)]:List (S23))) (inner:=[.int .i64 a0_0,.int .i64 a0_1,.int .i64 a0_2,.int .i64 a0_3,.int .i64 a1_0,.int .i64 a1_1,.int .i64 a1_2,.int .i64 a1_3]) (ok:=fun _=>True) (okp:=fun _=>True) ?hr ?hp (fun _ hk=>hk) trivial (Below.refl _ _) (Nat.le_refl _) (by simp) ?_;(case hd=>rfl);(case hg=>rfl);(case hr=>first|(go_simp;done)|(go_simp;rfl));(case hp=>exact (Reps.c4 (show Kd.M k23 _ _ _ (⟨a0_0,a0_1,a0_2,a0_3⟩:S23) [.int .i64 a0_0,.int .i64 a0_1,.int .i64 a0_2,.int .i64 a0_3] from (k23_mkM _ _ _ (⟨a0_0,a0_1,a0_2,a0_3⟩:S23) )) (Reps.c4 (show Kd.M k23 _ _ _ (⟨a1_0,a1_1,a1_2,a1_3⟩:S23) [.int .i64 a1_0,.int .i64 a1_1,.int .i64 a1_2,.int .i64 a1_3] from (k23_mkM _ _ _ (⟨a1_0,a1_1,a1_2,a1_3⟩:S23) )) (Reps.none _ _))));intro v229 w16 ho17 hb hg_ hnew_;clear hg_ hnew_;(first|rw [← Ny228.out] at ho17|(simp only [Int.reduceToNat] at ho17;rw [← Ny228.out] at ho17));have HO230:=mk0 (Kd.R_lower (Kd.R_newB (Kd.R_newB (Kd.R_newB ho17 (g:=gb225) (o:=.cells #[.int .i64 a0_0,.int .i64 a0_1,.int .i64 a0_2,.int .i64 a0_3] 23 (0,0)) BK225.out) (g:=gb226) (o:=.cells #[.int .i64 a1_0,.int .i64 a1_1,.int .i64 a1_2,.int .i64 a1_3] 23 (0,0)) BK226.out) (g:=gb227) (o:=.cells #[.int .i64 0,.int .i64 0,.int .i64 0,.int .i64 0] 23 (0,0)) BK227.out) (below_size HB.out));replace BK225:=bkb BK225 hb;replace BK226:=bkb BK226 hb;replace BK227:=bkb BK227 hb;replace HB:=bst HB hb;clear hb ho17;obtain ⟨Ao18,co18,eo18⟩:=Kd.R_slice HO230.out;subst eo18)|((with_reducible refine gate_callee (f:=47) rfl ?_);refine goesL_ (some 18) rfl rfl Try.func47 (by kernel_rfl) rfl #[.slice Ao18 y228.length co18] rfl (by (try simp only [List.map_toArray,List.map_cons,List.map_nil]);first|done|rfl|(simp only [List.length_drop,List.length_take];rfl)) ?_;(with_reducible refine (norm_check.calls k _ _ y228 t231 _ ?side1 ?side2 A3.out).mono ?_);(case side1=>repeat (first|exact (Kd.R_reads' HO230.out).2.2|(with_reducible refine Kd.C_alloc ?_ _)|(with_reducible refine Kd.C_drewN ?_ _)|(with_reducible refine Kd.C_drew ?_)));(case side2=>exact (Kd.R_reads' HO230.out).2.1);rintro e w19 ⟨rfl,hb⟩;refine ⟨_,rfl,?_⟩;replace HO230:=rbl HO230 hb;replace BK225:=bkb BK225 hb;replace BK226:=bkb BK226 hb;replace BK227:=bkb BK227 hb;replace HB:=bst HB hb;(try clear hb);(try clear hk)))
  replace HO230:=rdr HO230;replace BK225:=bdr BK225;replace BK226:=bdr BK226;replace BK227:=bdr BK227;replace HB:=hdr HB;refine start_ (n:=8) (S:=fun w'=>w'.cell? ⟨gb225,0,none⟩=some (.int .i64 a0_0)∧w'.cell? ⟨gb225,1,none⟩=some (.int .i64 a0_1)∧w'.cell? ⟨gb225,2,none⟩=some (.int .i64 a0_2)∧w'.cell? ⟨gb225,3,none⟩=some (.int .i64 a0_3)∧w'.cell? ⟨gb226,0,none⟩=some (.int .i64 a1_0)∧w'.cell? ⟨gb226,1,none⟩=some (.int .i64 a1_1)∧w'.cell? ⟨gb226,2,none⟩=some (.int .i64 a1_2)∧w'.cell? ⟨gb226,3,none⟩=some (.int .i64 a1_3)) (ds:=[]) #[false,false,false,false,false,false,false,false] (by kernel_rfl) rfl rfl ⟨(blk_cell BK225.out 0).trans rfl,(blk_cell BK225.out 1).trans rfl,(blk_cell BK225.out 2).trans rfl,(blk_cell BK225.out 3).trans rfl,(blk_cell BK226.out 0).trans rfl,(blk_cell BK226.out 1).trans rfl,(blk_cell BK226.out 2).trans rfl,(blk_cell BK226.out 3).trans rfl⟩ (fun hHeld=>?_);refine with_tabW norm_Gcd.tab4 norm_Gcd.bits4 (fun HT_ HW_=>?_);generalize w19.drew=w20 at HO230 BK225 BK226 BK227 HB hHeld ⊢;refine take_ (i:=0) (N:=some 23) (v:=?_) (a':=?_) #[true,false,false,false,false,false,false,false] rfl rfl (take_ofW HT_.out HW_.out (by kernel_rfl)) (fun _ _ _ h=>h) (Or.inl ⟨by rfl,?_⟩) hHeld ?_ ?_;rotate_left
  ·
   rintro w' ⟨s0,s1,s2,s3,s4,s5,s6,s7⟩;go_simp;with_reducible rfl
  rotate_left
  ·
   simp only [Act.put,List.setIfInBounds_toArray,List.set_cons_zero,List.set_cons_succ,i64_w,i32_w];rfl
  refine take_ (i:=2) (N:=some 25) (v:=?_) (a':=?_) #[true,false,true,false,false,false,false,false] rfl rfl (take_ofW HT_.out HW_.out (by kernel_rfl)) (fun _ _ _ h=>h) (Or.inl ⟨by rfl,?_⟩) hHeld ?_ ?_;rotate_left
  ·
   rintro w' ⟨s0,s1,s2,s3,s4,s5,s6,s7⟩;go_simp;with_reducible rfl
  rotate_left
  ·
   simp only [Act.put,List.setIfInBounds_toArray,List.set_cons_zero,List.set_cons_succ,i64_w,i32_w];rfl
  refine join_ (σ:=Nat × Nat) 2 #[true,true,true,true,true,true,false,false] (fun s_=>[(24,.agg #[.int .i64 t232,.int .i64 t233,.int .i64 t234,.int .i64 t235]),(26,.agg #[.int .i64 t236,.int .i64 t237,.int .i64 t238,.int .i64 t239]),(7,.pointer (some ⟨s_.1,0,none⟩)),(8,.pointer (some ⟨s_.2,0,none⟩))]) (fun s_ w'=>(w'.cell? ⟨gb225,0,none⟩=some (.int .i64 a0_0)∧w'.cell? ⟨gb225,1,none⟩=some (.int .i64 a0_1)∧w'.cell? ⟨gb225,2,none⟩=some (.int .i64 a0_2)∧w'.cell? ⟨gb225,3,none⟩=some (.int .i64 a0_3)∧w'.cell? ⟨gb226,0,none⟩=some (.int .i64 a1_0)∧w'.cell? ⟨gb226,1,none⟩=some (.int .i64 a1_1)∧w'.cell? ⟨gb226,2,none⟩=some (.int .i64 a1_2)∧w'.cell? ⟨gb226,3,none⟩=some (.int .i64 a1_3))∧(Kd.R k23 23 w' w.heap.size (fun k_=>k_ ≠ gb225∧k_ ≠ gb226∧k_ ≠ gb227) (.slice Ao18 y228.length co18) y228)∧(w'.heap[gb225]?=some (.cells #[.int .i64 a0_0,.int .i64 a0_1,.int .i64 a0_2,.int .i64 a0_3] 23 (0,0)))∧(w'.heap[gb226]?=some (.cells #[.int .i64 a1_0,.int .i64 a1_1,.int .i64 a1_2,.int .i64 a1_3] 23 (0,0)))∧(w'.heap[gb227]?=some (.cells #[.int .i64 0,.int .i64 0,.int .i64 0,.int .i64 0] 23 (0,0)))∧(w'.heap[s_.1]?=some (.cells #[.int .i64 0,.int .i64 0,.int .i64 0,.int .i64 0] 67 (0,0)))∧(w'.heap[s_.2]?=some (.cells #[.int .i64 0,.int .i64 0,.int .i64 0,.int .i64 0] 67 (0,0)))∧(w.heap.size ≤ s_.1)∧(w.heap.size ≤ s_.1)∧(gb225 ≠ s_.1)∧(s_.1 ≠ gb225)∧(gb226 ≠ s_.1)∧(s_.1 ≠ gb226)∧(gb227 ≠ s_.1)∧(s_.1 ≠ gb227)∧(s_.2 ≠ s_.1)∧(s_.1 ≠ s_.2)∧(w.heap.size ≤ s_.2)∧(w.heap.size ≤ s_.2)∧(gb225 ≠ s_.2)∧(s_.2 ≠ gb225)∧(gb226 ≠ s_.2)∧(s_.2 ≠ gb226)∧(gb227 ≠ s_.2)∧(s_.2 ≠ gb227)∧(Below w.heap.size w w')) ?_ ?_;rotate_left
  ·
   intro hJ1_3_4_5;refine join_ (σ:=Nat) 3 #[true,true,true,true,true,false,false,false] (fun s_=>[(24,.agg #[.int .i64 t232,.int .i64 t233,.int .i64 t234,.int .i64 t235]),(26,.agg #[.int .i64 t236,.int .i64 t237,.int .i64 t238,.int .i64 t239]),(7,.pointer (some ⟨s_,0,none⟩))]) (fun s_ w'=>(w'.cell? ⟨gb225,0,none⟩=some (.int .i64 a0_0)∧w'.cell? ⟨gb225,1,none⟩=some (.int .i64 a0_1)∧w'.cell? ⟨gb225,2,none⟩=some (.int .i64 a0_2)∧w'.cell? ⟨gb225,3,none⟩=some (.int .i64 a0_3)∧w'.cell? ⟨gb226,0,none⟩=some (.int .i64 a1_0)∧w'.cell? ⟨gb226,1,none⟩=some (.int .i64 a1_1)∧w'.cell? ⟨gb226,2,none⟩=some (.int .i64 a1_2)∧w'.cell? ⟨gb226,3,none⟩=some (.int .i64 a1_3))∧(Kd.R k23 23 w' w.heap.size (fun k_=>k_ ≠ gb225∧k_ ≠ gb226∧k_ ≠ gb227) (.slice Ao18 y228.length co18) y228)∧(w'.heap[gb225]?=some (.cells #[.int .i64 a0_0,.int .i64 a0_1,.int .i64 a0_2,.int .i64 a0_3] 23 (0,0)))∧(w'.heap[gb226]?=some (.cells #[.int .i64 a1_0,.int .i64 a1_1,.int .i64 a1_2,.int .i64 a1_3] 23 (0,0)))∧(w'.heap[gb227]?=some (.cells #[.int .i64 0,.int .i64 0,.int .i64 0,.int .i64 0] 23 (0,0)))∧(w'.heap[s_]?=some (.cells #[.int .i64 0,.int .i64 0,.int .i64 0,.int .i64 0] 67 (0,0)))∧(w.heap.size ≤ s_)∧(w.heap.size ≤ s_)∧(gb225 ≠ s_)∧(s_ ≠ gb225)∧(gb226 ≠ s_)∧(s_ ≠ gb226)∧(gb227 ≠ s_)∧(s_ ≠ gb227)∧(Below w.heap.size w w')) ?_ ?_;rotate_left
   ·
    intro hJ1_3_4;refine join_ (σ:=Nat) 3 #[true,true,true,true,false,true,false,false] (fun s_=>[(24,.agg #[.int .i64 t232,.int .i64 t233,.int .i64 t234,.int .i64 t235]),(26,.agg #[.int .i64 t236,.int .i64 t237,.int .i64 t238,.int .i64 t239]),(8,.pointer (some ⟨s_,0,none⟩))]) (fun s_ w'=>(w'.cell? ⟨gb225,0,none⟩=some (.int .i64 a0_0)∧w'.cell? ⟨gb225,1,none⟩=some (.int .i64 a0_1)∧w'.cell? ⟨gb225,2,none⟩=some (.int .i64 a0_2)∧w'.cell? ⟨gb225,3,none⟩=some (.int .i64 a0_3)∧w'.cell? ⟨gb226,0,none⟩=some (.int .i64 a1_0)∧w'.cell? ⟨gb226,1,none⟩=some (.int .i64 a1_1)∧w'.cell? ⟨gb226,2,none⟩=some (.int .i64 a1_2)∧w'.cell? ⟨gb226,3,none⟩=some (.int .i64 a1_3))∧(Kd.R k23 23 w' w.heap.size (fun k_=>k_ ≠ gb225∧k_ ≠ gb226∧k_ ≠ gb227) (.slice Ao18 y228.length co18) y228)∧(w'.heap[gb225]?=some (.cells #[.int .i64 a0_0,.int .i64 a0_1,.int .i64 a0_2,.int .i64 a0_3] 23 (0,0)))∧(w'.heap[gb226]?=some (.cells #[.int .i64 a1_0,.int .i64 a1_1,.int .i64 a1_2,.int .i64 a1_3] 23 (0,0)))∧(w'.heap[gb227]?=some (.cells #[.int .i64 0,.int .i64 0,.int .i64 0,.int .i64 0] 23 (0,0)))∧(w'.heap[s_]?=some (.cells #[.int .i64 0,.int .i64 0,.int .i64 0,.int .i64 0] 67 (0,0)))∧(w.heap.size ≤ s_)∧(w.heap.size ≤ s_)∧(gb225 ≠ s_)∧(s_ ≠ gb225)∧(gb226 ≠ s_)∧(s_ ≠ gb226)∧(gb227 ≠ s_)∧(s_ ≠ gb227)∧(Below w.heap.size w w')) ?_ ?_;rotate_left
    ·
     intro hJ1_3_5;refine join_ (σ:=Nat × Nat) 3 #[true,true,true,false,true,true,false,false] (fun s_=>[(24,.agg #[.int .i64 t232,.int .i64 t233,.int .i64 t234,.int .i64 t235]),(7,.pointer (some ⟨s_.1,0,none⟩)),(8,.pointer (some ⟨s_.2,0,none⟩))]) (fun s_ w'=>(w'.cell? ⟨gb225,0,none⟩=some (.int .i64 a0_0)∧w'.cell? ⟨gb225,1,none⟩=some (.int .i64 a0_1)∧w'.cell? ⟨gb225,2,none⟩=some (.int .i64 a0_2)∧w'.cell? ⟨gb225,3,none⟩=some (.int .i64 a0_3)∧w'.cell? ⟨gb226,0,none⟩=some (.int .i64 a1_0)∧w'.cell? ⟨gb226,1,none⟩=some (.int .i64 a1_1)∧w'.cell? ⟨gb226,2,none⟩=some (.int .i64 a1_2)∧w'.cell? ⟨gb226,3,none⟩=some (.int .i64 a1_3))∧(Kd.R k23 23 w' w.heap.size (fun k_=>k_ ≠ gb225∧k_ ≠ gb226∧k_ ≠ gb227) (.slice Ao18 y228.length co18) y228)∧(w'.heap[gb225]?=some (.cells #[.int .i64 a0_0,.int .i64 a0_1,.int .i64 a0_2,.int .i64 a0_3] 23 (0,0)))∧(w'.heap[gb226]?=some (.cells #[.int .i64 a1_0,.int .i64 a1_1,.int .i64 a1_2,.int .i64 a1_3] 23 (0,0)))∧(w'.heap[gb227]?=some (.cells #[.int .i64 0,.int .i64 0,.int .i64 0,.int .i64 0] 23 (0,0)))∧(w'.heap[s_.1]?=some (.cells #[.int .i64 0,.int .i64 0,.int .i64 0,.int .i64 0] 67 (0,0)))∧(w'.heap[s_.2]?=some (.cells #[.int .i64 0,.int .i64 0,.int .i64 0,.int .i64 0] 67 (0,0)))∧(w.heap.size ≤ s_.1)∧(w.heap.size ≤ s_.1)∧(gb225 ≠ s_.1)∧(s_.1 ≠ gb225)∧(gb226 ≠ s_.1)∧(s_.1 ≠ gb226)∧(gb227 ≠ s_.1)∧(s_.1 ≠ gb227)∧(s_.2 ≠ s_.1)∧(s_.1 ≠ s_.2)∧(w.heap.size ≤ s_.2)∧(w.heap.size ≤ s_.2)∧(gb225 ≠ s_.2)∧(s_.2 ≠ gb225)∧(gb226 ≠ s_.2)∧(s_.2 ≠ gb226)∧(gb227 ≠ s_.2)∧(s_.2 ≠ gb227)∧(Below w.heap.size w w')) ?_ ?_;rotate_left
     ·
      intro hJ1_4_5;refine join_ (σ:=Unit) 4 #[true,true,true,true,false,false,false,false] (fun s_=>[(24,.agg #[.int .i64 t232,.int .i64 t233,.int .i64 t234,.int .i64 t235]),(26,.agg #[.int .i64 t236,.int .i64 t237,.int .i64 t238,.int .i64 t239])]) (fun s_ w'=>(w'.cell? ⟨gb225,0,none⟩=some (.int .i64 a0_0)∧w'.cell? ⟨gb225,1,none⟩=some (.int .i64 a0_1)∧w'.cell? ⟨gb225,2,none⟩=some (.int .i64 a0_2)∧w'.cell? ⟨gb225,3,none⟩=some (.int .i64 a0_3)∧w'.cell? ⟨gb226,0,none⟩=some (.int .i64 a1_0)∧w'.cell? ⟨gb226,1,none⟩=some (.int .i64 a1_1)∧w'.cell? ⟨gb226,2,none⟩=some (.int .i64 a1_2)∧w'.cell? ⟨gb226,3,none⟩=some (.int .i64 a1_3))∧(Kd.R k23 23 w' w.heap.size (fun k_=>k_ ≠ gb225∧k_ ≠ gb226∧k_ ≠ gb227) (.slice Ao18 y228.length co18) y228)∧(w'.heap[gb225]?=some (.cells #[.int .i64 a0_0,.int .i64 a0_1,.int .i64 a0_2,.int .i64 a0_3] 23 (0,0)))∧(w'.heap[gb226]?=some (.cells #[.int .i64 a1_0,.int .i64 a1_1,.int .i64 a1_2,.int .i64 a1_3] 23 (0,0)))∧(w'.heap[gb227]?=some (.cells #[.int .i64 0,.int .i64 0,.int .i64 0,.int .i64 0] 23 (0,0)))∧(Below w.heap.size w w')) ?_ ?_;rotate_left
      ·
       intro hJ1_3;refine join_ (σ:=Nat) 4 #[true,true,true,false,true,false,false,false] (fun s_=>[(24,.agg #[.int .i64 t232,.int .i64 t233,.int .i64 t234,.int .i64 t235]),(7,.pointer (some ⟨s_,0,none⟩))]) (fun s_ w'=>(w'.cell? ⟨gb225,0,none⟩=some (.int .i64 a0_0)∧w'.cell? ⟨gb225,1,none⟩=some (.int .i64 a0_1)∧w'.cell? ⟨gb225,2,none⟩=some (.int .i64 a0_2)∧w'.cell? ⟨gb225,3,none⟩=some (.int .i64 a0_3)∧w'.cell? ⟨gb226,0,none⟩=some (.int .i64 a1_0)∧w'.cell? ⟨gb226,1,none⟩=some (.int .i64 a1_1)∧w'.cell? ⟨gb226,2,none⟩=some (.int .i64 a1_2)∧w'.cell? ⟨gb226,3,none⟩=some (.int .i64 a1_3))∧(Kd.R k23 23 w' w.heap.size (fun k_=>k_ ≠ gb225∧k_ ≠ gb226∧k_ ≠ gb227) (.slice Ao18 y228.length co18) y228)∧(w'.heap[gb225]?=some (.cells #[.int .i64 a0_0,.int .i64 a0_1,.int .i64 a0_2,.int .i64 a0_3] 23 (0,0)))∧(w'.heap[gb226]?=some (.cells #[.int .i64 a1_0,.int .i64 a1_1,.int .i64 a1_2,.int .i64 a1_3] 23 (0,0)))∧(w'.heap[gb227]?=some (.cells #[.int .i64 0,.int .i64 0,.int .i64 0,.int .i64 0] 23 (0,0)))∧(w'.heap[s_]?=some (.cells #[.int .i64 0,.int .i64 0,.int .i64 0,.int .i64 0] 67 (0,0)))∧(w.heap.size ≤ s_)∧(w.heap.size ≤ s_)∧(gb225 ≠ s_)∧(s_ ≠ gb225)∧(gb226 ≠ s_)∧(s_ ≠ gb226)∧(gb227 ≠ s_)∧(s_ ≠ gb227)∧(Below w.heap.size w w')) ?_ ?_;rotate_left
       ·
        intro hJ1_4;refine join_ (σ:=Nat) 4 #[true,true,true,false,false,true,false,false] (fun s_=>[(24,.agg #[.int .i64 t232,.int .i64 t233,.int .i64 t234,.int .i64 t235]),(8,.pointer (some ⟨s_,0,none⟩))]) (fun s_ w'=>(w'.cell? ⟨gb225,0,none⟩=some (.int .i64 a0_0)∧w'.cell? ⟨gb225,1,none⟩=some (.int .i64 a0_1)∧w'.cell? ⟨gb225,2,none⟩=some (.int .i64 a0_2)∧w'.cell? ⟨gb225,3,none⟩=some (.int .i64 a0_3)∧w'.cell? ⟨gb226,0,none⟩=some (.int .i64 a1_0)∧w'.cell? ⟨gb226,1,none⟩=some (.int .i64 a1_1)∧w'.cell? ⟨gb226,2,none⟩=some (.int .i64 a1_2)∧w'.cell? ⟨gb226,3,none⟩=some (.int .i64 a1_3))∧(Kd.R k23 23 w' w.heap.size (fun k_=>k_ ≠ gb225∧k_ ≠ gb226∧k_ ≠ gb227) (.slice Ao18 y228.length co18) y228)∧(w'.heap[gb225]?=some (.cells #[.int .i64 a0_0,.int .i64 a0_1,.int .i64 a0_2,.int .i64 a0_3] 23 (0,0)))∧(w'.heap[gb226]?=some (.cells #[.int .i64 a1_0,.int .i64 a1_1,.int .i64 a1_2,.int .i64 a1_3] 23 (0,0)))∧(w'.heap[gb227]?=some (.cells #[.int .i64 0,.int .i64 0,.int .i64 0,.int .i64 0] 23 (0,0)))∧(w'.heap[s_]?=some (.cells #[.int .i64 0,.int .i64 0,.int .i64 0,.int .i64 0] 67 (0,0)))∧(w.heap.size ≤ s_)∧(w.heap.size ≤ s_)∧(gb225 ≠ s_)∧(s_ ≠ gb225)∧(gb226 ≠ s_)∧(s_ ≠ gb226)∧(gb227 ≠ s_)∧(s_ ≠ gb227)∧(Below w.heap.size w w')) ?_ ?_;rotate_left
        ·
         intro hJ1_5;refine join_ (σ:=Nat × Nat) 4 #[true,false,true,false,true,true,false,false] (fun s_=>[(7,.pointer (some ⟨s_.1,0,none⟩)),(8,.pointer (some ⟨s_.2,0,none⟩))]) (fun s_ w'=>(w'.cell? ⟨gb225,0,none⟩=some (.int .i64 a0_0)∧w'.cell? ⟨gb225,1,none⟩=some (.int .i64 a0_1)∧w'.cell? ⟨gb225,2,none⟩=some (.int .i64 a0_2)∧w'.cell? ⟨gb225,3,none⟩=some (.int .i64 a0_3)∧w'.cell? ⟨gb226,0,none⟩=some (.int .i64 a1_0)∧w'.cell? ⟨gb226,1,none⟩=some (.int .i64 a1_1)∧w'.cell? ⟨gb226,2,none⟩=some (.int .i64 a1_2)∧w'.cell? ⟨gb226,3,none⟩=some (.int .i64 a1_3))∧(Kd.R k23 23 w' w.heap.size (fun k_=>k_ ≠ gb225∧k_ ≠ gb226∧k_ ≠ gb227) (.slice Ao18 y228.length co18) y228)∧(w'.heap[gb225]?=some (.cells #[.int .i64 a0_0,.int .i64 a0_1,.int .i64 a0_2,.int .i64 a0_3] 23 (0,0)))∧(w'.heap[gb226]?=some (.cells #[.int .i64 a1_0,.int .i64 a1_1,.int .i64 a1_2,.int .i64 a1_3] 23 (0,0)))∧(w'.heap[gb227]?=some (.cells #[.int .i64 0,.int .i64 0,.int .i64 0,.int .i64 0] 23 (0,0)))∧(w'.heap[s_.1]?=some (.cells #[.int .i64 0,.int .i64 0,.int .i64 0,.int .i64 0] 67 (0,0)))∧(w'.heap[s_.2]?=some (.cells #[.int .i64 0,.int .i64 0,.int .i64 0,.int .i64 0] 67 (0,0)))∧(w.heap.size ≤ s_.1)∧(w.heap.size ≤ s_.1)∧(gb225 ≠ s_.1)∧(s_.1 ≠ gb225)∧(gb226 ≠ s_.1)∧(s_.1 ≠ gb226)∧(gb227 ≠ s_.1)∧(s_.1 ≠ gb227)∧(s_.2 ≠ s_.1)∧(s_.1 ≠ s_.2)∧(w.heap.size ≤ s_.2)∧(w.heap.size ≤ s_.2)∧(gb225 ≠ s_.2)∧(s_.2 ≠ gb225)∧(gb226 ≠ s_.2)∧(s_.2 ≠ gb226)∧(gb227 ≠ s_.2)∧(s_.2 ≠ gb227)∧(Below w.heap.size w w')) ?_ ?_;rotate_left
         ·
          intro hJ4_5;refine join_ (σ:=Unit) 5 #[true,true,true,false,false,false,false,false] (fun s_=>[(24,.agg #[.int .i64 t232,.int .i64 t233,.int .i64 t234,.int .i64 t235])]) (fun s_ w'=>(w'.cell? ⟨gb225,0,none⟩=some (.int .i64 a0_0)∧w'.cell? ⟨gb225,1,none⟩=some (.int .i64 a0_1)∧w'.cell? ⟨gb225,2,none⟩=some (.int .i64 a0_2)∧w'.cell? ⟨gb225,3,none⟩=some (.int .i64 a0_3)∧w'.cell? ⟨gb226,0,none⟩=some (.int .i64 a1_0)∧w'.cell? ⟨gb226,1,none⟩=some (.int .i64 a1_1)∧w'.cell? ⟨gb226,2,none⟩=some (.int .i64 a1_2)∧w'.cell? ⟨gb226,3,none⟩=some (.int .i64 a1_3))∧(Kd.R k23 23 w' w.heap.size (fun k_=>k_ ≠ gb225∧k_ ≠ gb226∧k_ ≠ gb227) (.slice Ao18 y228.length co18) y228)∧(w'.heap[gb225]?=some (.cells #[.int .i64 a0_0,.int .i64 a0_1,.int .i64 a0_2,.int .i64 a0_3] 23 (0,0)))∧(w'.heap[gb226]?=some (.cells #[.int .i64 a1_0,.int .i64 a1_1,.int .i64 a1_2,.int .i64 a1_3] 23 (0,0)))∧(w'.heap[gb227]?=some (.cells #[.int .i64 0,.int .i64 0,.int .i64 0,.int .i64 0] 23 (0,0)))∧(Below w.heap.size w w')) ?_ ?_;rotate_left
          ·
           intro hJ1;refine join_ (σ:=Nat) 5 #[true,false,true,false,true,false,false,false] (fun s_=>[(7,.pointer (some ⟨s_,0,none⟩))]) (fun s_ w'=>(w'.cell? ⟨gb225,0,none⟩=some (.int .i64 a0_0)∧w'.cell? ⟨gb225,1,none⟩=some (.int .i64 a0_1)∧w'.cell? ⟨gb225,2,none⟩=some (.int .i64 a0_2)∧w'.cell? ⟨gb225,3,none⟩=some (.int .i64 a0_3)∧w'.cell? ⟨gb226,0,none⟩=some (.int .i64 a1_0)∧w'.cell? ⟨gb226,1,none⟩=some (.int .i64 a1_1)∧w'.cell? ⟨gb226,2,none⟩=some (.int .i64 a1_2)∧w'.cell? ⟨gb226,3,none⟩=some (.int .i64 a1_3))∧(Kd.R k23 23 w' w.heap.size (fun k_=>k_ ≠ gb225∧k_ ≠ gb226∧k_ ≠ gb227) (.slice Ao18 y228.length co18) y228)∧(w'.heap[gb225]?=some (.cells #[.int .i64 a0_0,.int .i64 a0_1,.int .i64 a0_2,.int .i64 a0_3] 23 (0,0)))∧(w'.heap[gb226]?=some (.cells #[.int .i64 a1_0,.int .i64 a1_1,.int .i64 a1_2,.int .i64 a1_3] 23 (0,0)))∧(w'.heap[gb227]?=some (.cells #[.int .i64 0,.int .i64 0,.int .i64 0,.int .i64 0] 23 (0,0)))∧(w'.heap[s_]?=some (.cells #[.int .i64 0,.int .i64 0,.int .i64 0,.int .i64 0] 67 (0,0)))∧(w.heap.size ≤ s_)∧(w.heap.size ≤ s_)∧(gb225 ≠ s_)∧(s_ ≠ gb225)∧(gb226 ≠ s_)∧(s_ ≠ gb226)∧(gb227 ≠ s_)∧(s_ ≠ gb227)∧(Below w.heap.size w w')) ?_ ?_;rotate_left
           ·
            intro hJ4;refine join_ (σ:=Nat) 5 #[true,false,true,false,false,true,false,false] (fun s_=>[(8,.pointer (some ⟨s_,0,none⟩))]) (fun s_ w'=>(w'.cell? ⟨gb225,0,none⟩=some (.int .i64 a0_0)∧w'.cell? ⟨gb225,1,none⟩=some (.int .i64 a0_1)∧w'.cell? ⟨gb225,2,none⟩=some (.int .i64 a0_2)∧w'.cell? ⟨gb225,3,none⟩=some (.int .i64 a0_3)∧w'.cell? ⟨gb226,0,none⟩=some (.int .i64 a1_0)∧w'.cell? ⟨gb226,1,none⟩=some (.int .i64 a1_1)∧w'.cell? ⟨gb226,2,none⟩=some (.int .i64 a1_2)∧w'.cell? ⟨gb226,3,none⟩=some (.int .i64 a1_3))∧(Kd.R k23 23 w' w.heap.size (fun k_=>k_ ≠ gb225∧k_ ≠ gb226∧k_ ≠ gb227) (.slice Ao18 y228.length co18) y228)∧(w'.heap[gb225]?=some (.cells #[.int .i64 a0_0,.int .i64 a0_1,.int .i64 a0_2,.int .i64 a0_3] 23 (0,0)))∧(w'.heap[gb226]?=some (.cells #[.int .i64 a1_0,.int .i64 a1_1,.int .i64 a1_2,.int .i64 a1_3] 23 (0,0)))∧(w'.heap[gb227]?=some (.cells #[.int .i64 0,.int .i64 0,.int .i64 0,.int .i64 0] 23 (0,0)))∧(w'.heap[s_]?=some (.cells #[.int .i64 0,.int .i64 0,.int .i64 0,.int .i64 0] 67 (0,0)))∧(w.heap.size ≤ s_)∧(w.heap.size ≤ s_)∧(gb225 ≠ s_)∧(s_ ≠ gb225)∧(gb226 ≠ s_)∧(s_ ≠ gb226)∧(gb227 ≠ s_)∧(s_ ≠ gb227)∧(Below w.heap.size w w')) ?_ ?_;rotate_left
            ·
             intro hJ5;refine three_ (i:=1) (j:=4) (k:=5) (Ni:=some 24) (Nj:=some 7) (Nk:=some 8) #[true,true,true,false,false,false,false,false] #[true,false,true,false,true,false,false,false] #[true,false,true,false,false,true,false,false] rfl rfl rfl rfl rfl rfl (three_of HT_.out (by kernel_rfl)) (by decide) (by decide) (by decide) (fun K hK=>?_) (fun K hK=>?_) (fun K hK=>?_)
             ·
              skip
              refine goes_ Try.func48 (by kernel_rfl) rfl #[.agg #[.int .i64 a0_0,.int .i64 a0_1,.int .i64 a0_2,.int .i64 a0_3]] (by rfl) rfl rfl (by (try simp only [List.map_toArray,List.map_cons,List.map_nil]);first|done|rfl|(simp only [List.length_drop,List.length_take];rfl)) ?_;with_reducible refine (norm_of.calls a0_0 a0_1 a0_2 a0_3 t232 t233 t234 t235 _ A5.out).mono ?_
              rintro e w21 ⟨rfl,hb⟩;refine ⟨_,rfl,?_⟩;replace HO230:=rbl HO230 hb;replace BK225:=bkb BK225 hb;replace BK226:=bkb BK226 hb;replace BK227:=bkb BK227 hb;replace HB:=bst HB hb;(try clear hb);refine hK.out _ _ ⟨(blk_cell BK225.out 0).trans rfl,(blk_cell BK225.out 1).trans rfl,(blk_cell BK225.out 2).trans rfl,(blk_cell BK225.out 3).trans rfl,(blk_cell BK226.out 0).trans rfl,(blk_cell BK226.out 1).trans rfl,(blk_cell BK226.out 2).trans rfl,(blk_cell BK226.out 3).trans rfl⟩ (fun hHeld=>?_);clear hK K;refine norm_ (a':=?_) ?_ ?_;rotate_left
              ·
               show Act.put _ (some 24) _=_;simp only [Act.put,List.setIfInBounds_toArray,List.set_cons_zero,List.set_cons_succ,i64_w,i32_w];rfl
              exact norm_ (by simp only [putAll,Act.put,List.setIfInBounds_toArray,List.set_cons_zero,List.set_cons_succ] <;> rfl) (hJ1 () _ ⟨hHeld,(by (with_reducible repeat (first|apply Kd.R_alloc|apply Kd.R_drewN|apply Kd.R_drew));exact Kd.R_mono HO230.out (fun _ hk=>⟨hk.1.1.2,⟨hk.1.2,hk.2⟩⟩)),BK225.out,BK226.out,BK227.out,HB.out⟩)
             ·
              skip
              refine box_step ?hg (N:=7) ?hd (cs:=#[.int .i64 0,.int .i64 0,.int .i64 0,.int .i64 0]) (t:=67) ?hr ?_;(case hd=>rfl);(case hg=>rfl);(case hr=>first|(go_simp;done)|(go_simp;rfl));intro gb240 hg w21 hbox hb;have BK240:=mk0 (hbox);have GW240:=szw hg HB;have GE240:=szw hg HB;have NB225_240:=nlt hg BK225;have NB240_225:=ngt hg BK225;have NB226_240:=nlt hg BK226;have NB240_226:=ngt hg BK226;have NB227_240:=nlt hg BK227;have NB240_227:=ngt hg BK227;replace HO230:=rbl HO230 hb;replace BK225:=bkb BK225 hb;replace BK226:=bkb BK226 hb;replace BK227:=bkb BK227 hb;replace HB:=bst HB hb;clear hb hbox hg;refine hK.out _ _ ⟨(blk_cell BK225.out 0).trans rfl,(blk_cell BK225.out 1).trans rfl,(blk_cell BK225.out 2).trans rfl,(blk_cell BK225.out 3).trans rfl,(blk_cell BK226.out 0).trans rfl,(blk_cell BK226.out 1).trans rfl,(blk_cell BK226.out 2).trans rfl,(blk_cell BK226.out 3).trans rfl⟩ (fun hHeld=>?_);clear hK K;refine norm_ (a':=?_) ?_ ?_;rotate_left
              ·
               show Act.put _ (some 7) _=_;simp only [Act.put,List.setIfInBounds_toArray,List.set_cons_zero,List.set_cons_succ,i64_w,i32_w];rfl
              exact norm_ (by simp only [putAll,Act.put,List.setIfInBounds_toArray,List.set_cons_zero,List.set_cons_succ] <;> rfl) (hJ4 (gb240) _ ⟨hHeld,(by (with_reducible repeat (first|apply Kd.R_alloc|apply Kd.R_drewN|apply Kd.R_drew));exact Kd.R_mono HO230.out (fun _ hk=>⟨hk.1.1.2,⟨hk.1.2,hk.2⟩⟩)),BK225.out,BK226.out,BK227.out,BK240.out,GW240.out,GE240.out,NB225_240.out,NB240_225.out,NB226_240.out,NB240_226.out,NB227_240.out,NB240_227.out,HB.out⟩)
             ·
              skip
              refine box_step ?hg (N:=8) ?hd (cs:=#[.int .i64 0,.int .i64 0,.int .i64 0,.int .i64 0]) (t:=67) ?hr ?_;(case hd=>rfl);(case hg=>rfl);(case hr=>first|(go_simp;done)|(go_simp;rfl));intro gb241 hg w21 hbox hb;have BK241:=mk0 (hbox);have GW241:=szw hg HB;have GE241:=szw hg HB;have NB225_241:=nlt hg BK225;have NB241_225:=ngt hg BK225;have NB226_241:=nlt hg BK226;have NB241_226:=ngt hg BK226;have NB227_241:=nlt hg BK227;have NB241_227:=ngt hg BK227;replace HO230:=rbl HO230 hb;replace BK225:=bkb BK225 hb;replace BK226:=bkb BK226 hb;replace BK227:=bkb BK227 hb;replace HB:=bst HB hb;clear hb hbox hg;refine hK.out _ _ ⟨(blk_cell BK225.out 0).trans rfl,(blk_cell BK225.out 1).trans rfl,(blk_cell BK225.out 2).trans rfl,(blk_cell BK225.out 3).trans rfl,(blk_cell BK226.out 0).trans rfl,(blk_cell BK226.out 1).trans rfl,(blk_cell BK226.out 2).trans rfl,(blk_cell BK226.out 3).trans rfl⟩ (fun hHeld=>?_);clear hK K;refine norm_ (a':=?_) ?_ ?_;rotate_left
              ·
               show Act.put _ (some 8) _=_;simp only [Act.put,List.setIfInBounds_toArray,List.set_cons_zero,List.set_cons_succ,i64_w,i32_w];rfl
              exact norm_ (by simp only [putAll,Act.put,List.setIfInBounds_toArray,List.set_cons_zero,List.set_cons_succ] <;> rfl) (hJ5 (gb241) _ ⟨hHeld,(by (with_reducible repeat (first|apply Kd.R_alloc|apply Kd.R_drewN|apply Kd.R_drew));exact Kd.R_mono HO230.out (fun _ hk=>⟨hk.1.1.2,⟨hk.1.2,hk.2⟩⟩)),BK225.out,BK226.out,BK227.out,BK241.out,GW241.out,GE241.out,NB225_241.out,NB241_225.out,NB226_241.out,NB241_226.out,NB227_241.out,NB241_227.out,HB.out⟩)
            ·
             skip
             clear HO230 BK225 BK226 BK227 HB;rintro gb241 w22 hJ_;obtain ⟨hS_,HO230,BK225,BK226,BK227,BK241,GW241,GE241,NB225_241,NB241_225,NB226_241,NB241_226,NB227_241,NB241_227,HB⟩:=hJ_;replace HO230:=mk0 HO230;replace BK225:=mk0 BK225;replace BK226:=mk0 BK226;replace BK227:=mk0 BK227;replace BK241:=mk0 BK241;replace GW241:=mk0 GW241;replace GE241:=mk0 GE241;replace NB225_241:=mk0 NB225_241;replace NB241_225:=mk0 NB241_225;replace NB226_241:=mk0 NB226_241;replace NB241_226:=mk0 NB241_226;replace NB227_241:=mk0 NB227_241;replace NB241_227:=mk0 NB241_227;replace HB:=mk0 HB;have hHeld:w22.cell? ⟨gb225,0,none⟩=some (.int .i64 a0_0)∧w22.cell? ⟨gb225,1,none⟩=some (.int .i64 a0_1)∧w22.cell? ⟨gb225,2,none⟩=some (.int .i64 a0_2)∧w22.cell? ⟨gb225,3,none⟩=some (.int .i64 a0_3)∧w22.cell? ⟨gb226,0,none⟩=some (.int .i64 a1_0)∧w22.cell? ⟨gb226,1,none⟩=some (.int .i64 a1_1)∧w22.cell? ⟨gb226,2,none⟩=some (.int .i64 a1_2)∧w22.cell? ⟨gb226,3,none⟩=some (.int .i64 a1_3):=hS_;refine norm_ (a':=?_) ?_ ?_;rotate_left
             ·
              simp only [putAll,Act.put,List.setIfInBounds_toArray,List.set_cons_zero,List.set_cons_succ];rfl
             refine two_ (i:=1) (j:=4) (Ni:=some 24) (Nj:=some 7) #[true,true,true,false,false,true,false,false] #[true,false,true,false,true,true,false,false] rfl rfl rfl rfl (two_of HT_.out (by kernel_rfl)) (by decide) (by decide) (fun K hK=>?_) (fun K hK=>?_)
             ·
              skip
              refine goes_ Try.func48 (by kernel_rfl) rfl #[.agg #[.int .i64 a0_0,.int .i64 a0_1,.int .i64 a0_2,.int .i64 a0_3]] (by rfl) rfl rfl (by (try simp only [List.map_toArray,List.map_cons,List.map_nil]);first|done|rfl|(simp only [List.length_drop,List.length_take];rfl)) ?_;with_reducible refine (norm_of.calls a0_0 a0_1 a0_2 a0_3 t232 t233 t234 t235 _ A5.out).mono ?_
              rintro e w23 ⟨rfl,hb⟩;refine ⟨_,rfl,?_⟩;replace HO230:=rbl HO230 hb;replace BK225:=bkb BK225 hb;replace BK226:=bkb BK226 hb;replace BK227:=bkb BK227 hb;replace BK241:=bkb BK241 hb;replace HB:=bst HB hb;(try clear hb);(try clear hk);refine hK.out _ _ ⟨(blk_cell BK225.out 0).trans rfl,(blk_cell BK225.out 1).trans rfl,(blk_cell BK225.out 2).trans rfl,(blk_cell BK225.out 3).trans rfl,(blk_cell BK226.out 0).trans rfl,(blk_cell BK226.out 1).trans rfl,(blk_cell BK226.out 2).trans rfl,(blk_cell BK226.out 3).trans rfl⟩ (fun hHeld=>?_);clear hK K;refine norm_ (a':=?_) ?_ ?_;rotate_left
              ·
               show Act.put _ (some 24) _=_;simp only [Act.put,List.setIfInBounds_toArray,List.set_cons_zero,List.set_cons_succ,i64_w,i32_w];rfl
              exact norm_ (by simp only [putAll,Act.put,List.setIfInBounds_toArray,List.set_cons_zero,List.set_cons_succ] <;> rfl) (hJ1_5 (gb241) _ ⟨hHeld,HO230.out,BK225.out,BK226.out,BK227.out,BK241.out,GW241.out,GE241.out,NB225_241.out,NB241_225.out,NB226_241.out,NB241_226.out,NB227_241.out,NB241_227.out,HB.out⟩)
             ·
              skip
              refine box_step ?hg (N:=7) ?hd (cs:=#[.int .i64 0,.int .i64 0,.int .i64 0,.int .i64 0]) (t:=67) ?hr ?_;(case hd=>rfl);(case hg=>rfl);(case hr=>first|(go_simp;done)|(go_simp;rfl));intro gb240 hg w23 hbox hb;have BK240:=mk0 (hbox);have GW240:=szw hg HB;have GE240:=szw hg HB;have NB225_240:=nlt hg BK225;have NB240_225:=ngt hg BK225;have NB226_240:=nlt hg BK226;have NB240_226:=ngt hg BK226;have NB227_240:=nlt hg BK227;have NB240_227:=ngt hg BK227;have NB241_240:=nlt hg BK241;have NB240_241:=ngt hg BK241;replace HO230:=rbl HO230 hb;replace BK225:=bkb BK225 hb;replace BK226:=bkb BK226 hb;replace BK227:=bkb BK227 hb;replace BK241:=bkb BK241 hb;replace HB:=bst HB hb;clear hb hbox hg;refine hK.out _ _ ⟨(blk_cell BK225.out 0).trans rfl,(blk_cell BK225.out 1).trans rfl,(blk_cell BK225.out 2).trans rfl,(blk_cell BK225.out 3).trans rfl,(blk_cell BK226.out 0).trans rfl,(blk_cell BK226.out 1).trans rfl,(blk_cell BK226.out 2).trans rfl,(blk_cell BK226.out 3).trans rfl⟩ (fun hHeld=>?_);clear hK K;refine norm_ (a':=?_) ?_ ?_;rotate_left
              ·
               show Act.put _ (some 7) _=_;simp only [Act.put,List.setIfInBounds_toArray,List.set_cons_zero,List.set_cons_succ,i64_w,i32_w];rfl
              exact norm_ (by simp only [putAll,Act.put,List.setIfInBounds_toArray,List.set_cons_zero,List.set_cons_succ] <;> rfl) (hJ4_5 (gb240,gb241) _ ⟨hHeld,HO230.out,BK225.out,BK226.out,BK227.out,BK240.out,BK241.out,GW240.out,GE240.out,NB225_240.out,NB240_225.out,NB226_240.out,NB240_226.out,NB227_240.out,NB240_227.out,NB241_240.out,NB240_241.out,GW241.out,GE241.out,NB225_241.out,NB241_225.out,NB226_241.out,NB241_226.out,NB227_241.out,NB241_227.out,HB.out⟩)
           ·
            skip
            clear HO230 BK225 BK226 BK227 HB;rintro gb240 w22 hJ_;obtain ⟨hS_,HO230,BK225,BK226,BK227,BK240,GW240,GE240,NB225_240,NB240_225,NB226_240,NB240_226,NB227_240,NB240_227,HB⟩:=hJ_;replace HO230:=mk0 HO230;replace BK225:=mk0 BK225;replace BK226:=mk0 BK226;replace BK227:=mk0 BK227;replace BK240:=mk0 BK240;replace GW240:=mk0 GW240;replace GE240:=mk0 GE240;replace NB225_240:=mk0 NB225_240;replace NB240_225:=mk0 NB240_225;replace NB226_240:=mk0 NB226_240;replace NB240_226:=mk0 NB240_226;replace NB227_240:=mk0 NB227_240;replace NB240_227:=mk0 NB240_227;replace HB:=mk0 HB;have hHeld:w22.cell? ⟨gb225,0,none⟩=some (.int .i64 a0_0)∧w22.cell? ⟨gb225,1,none⟩=some (.int .i64 a0_1)∧w22.cell? ⟨gb225,2,none⟩=some (.int .i64 a0_2)∧w22.cell? ⟨gb225,3,none⟩=some (.int .i64 a0_3)∧w22.cell? ⟨gb226,0,none⟩=some (.int .i64 a1_0)∧w22.cell? ⟨gb226,1,none⟩=some (.int .i64 a1_1)∧w22.cell? ⟨gb226,2,none⟩=some (.int .i64 a1_2)∧w22.cell? ⟨gb226,3,none⟩=some (.int .i64 a1_3):=hS_;refine norm_ (a':=?_) ?_ ?_;rotate_left
            ·
             simp only [putAll,Act.put,List.setIfInBounds_toArray,List.set_cons_zero,List.set_cons_succ];rfl
            refine two_ (i:=1) (j:=5) (Ni:=some 24) (Nj:=some 8) #[true,true,true,false,true,false,false,false] #[true,false,true,false,true,true,false,false] rfl rfl rfl rfl (two_of HT_.out (by kernel_rfl)) (by decide) (by decide) (fun K hK=>?_) (fun K hK=>?_)
            ·
             skip
             refine goes_ Try.func48 (by kernel_rfl) rfl #[.agg #[.int .i64 a0_0,.int .i64 a0_1,.int .i64 a0_2,.int .i64 a0_3]] (by rfl) rfl rfl (by (try simp only [List.map_toArray,List.map_cons,List.map_nil]);first|done|rfl|(simp only [List.length_drop,List.length_take];rfl)) ?_;with_reducible refine (norm_of.calls a0_0 a0_1 a0_2 a0_3 t232 t233 t234 t235 _ A5.out).mono ?_
             rintro e w23 ⟨rfl,hb⟩;refine ⟨_,rfl,?_⟩;replace HO230:=rbl HO230 hb;replace BK225:=bkb BK225 hb;replace BK226:=bkb BK226 hb;replace BK227:=bkb BK227 hb;replace BK240:=bkb BK240 hb;replace HB:=bst HB hb;(try clear hb);refine hK.out _ _ ⟨(blk_cell BK225.out 0).trans rfl,(blk_cell BK225.out 1).trans rfl,(blk_cell BK225.out 2).trans rfl,(blk_cell BK225.out 3).trans rfl,(blk_cell BK226.out 0).trans rfl,(blk_cell BK226.out 1).trans rfl,(blk_cell BK226.out 2).trans rfl,(blk_cell BK226.out 3).trans rfl⟩ (fun hHeld=>?_);clear hK K;refine norm_ (a':=?_) ?_ ?_;rotate_left
             ·
              show Act.put _ (some 24) _=_;simp only [Act.put,List.setIfInBounds_toArray,List.set_cons_zero,List.set_cons_succ,i64_w,i32_w];rfl
             exact norm_ (by simp only [putAll,Act.put,List.setIfInBounds_toArray,List.set_cons_zero,List.set_cons_succ] <;> rfl) (hJ1_4 (gb240) _ ⟨hHeld,HO230.out,BK225.out,BK226.out,BK227.out,BK240.out,GW240.out,GE240.out,NB225_240.out,NB240_225.out,NB226_240.out,NB240_226.out,NB227_240.out,NB240_227.out,HB.out⟩)
            ·
             skip
             refine box_step ?hg (N:=8) ?hd (cs:=#[.int .i64 0,.int .i64 0,.int .i64 0,.int .i64 0]) (t:=67) ?hr ?_;(case hd=>rfl);(case hg=>rfl);(case hr=>first|(go_simp;done)|(go_simp;rfl));intro gb241 hg w23 hbox hb;have BK241:=mk0 (hbox);have GW241:=szw hg HB;have GE241:=szw hg HB;have NB225_241:=nlt hg BK225;have NB241_225:=ngt hg BK225;have NB226_241:=nlt hg BK226;have NB241_226:=ngt hg BK226;have NB227_241:=nlt hg BK227;have NB241_227:=ngt hg BK227;have NB240_241:=nlt hg BK240;have NB241_240:=ngt hg BK240;replace HO230:=rbl HO230 hb;replace BK225:=bkb BK225 hb;replace BK226:=bkb BK226 hb;replace BK227:=bkb BK227 hb;replace BK240:=bkb BK240 hb;replace HB:=bst HB hb;clear hb hbox hg;refine hK.out _ _ ⟨(blk_cell BK225.out 0).trans rfl,(blk_cell BK225.out 1).trans rfl,(blk_cell BK225.out 2).trans rfl,(blk_cell BK225.out 3).trans rfl,(blk_cell BK226.out 0).trans rfl,(blk_cell BK226.out 1).trans rfl,(blk_cell BK226.out 2).trans rfl,(blk_cell BK226.out 3).trans rfl⟩ (fun hHeld=>?_);clear hK K;refine norm_ (a':=?_) ?_ ?_;rotate_left
             ·
              show Act.put _ (some 8) _=_;simp only [Act.put,List.setIfInBounds_toArray,List.set_cons_zero,List.set_cons_succ,i64_w,i32_w];rfl
             exact norm_ (by simp only [putAll,Act.put,List.setIfInBounds_toArray,List.set_cons_zero,List.set_cons_succ] <;> rfl) (hJ4_5 (gb240,gb241) _ ⟨hHeld,HO230.out,BK225.out,BK226.out,BK227.out,BK240.out,BK241.out,GW240.out,GE240.out,NB225_240.out,NB240_225.out,NB226_240.out,NB240_226.out,NB227_240.out,NB240_227.out,NB241_240.out,NB240_241.out,GW241.out,GE241.out,NB225_241.out,NB241_225.out,NB226_241.out,NB241_226.out,NB227_241.out,NB241_227.out,HB.out⟩)
          ·
           skip
           clear HO230 BK225 BK226 BK227 HB;rintro _ w22 hJ_;obtain ⟨hS_,HO230,BK225,BK226,BK227,HB⟩:=hJ_;replace HO230:=mk0 HO230;replace BK225:=mk0 BK225;replace BK226:=mk0 BK226;replace BK227:=mk0 BK227;replace HB:=mk0 HB;have hHeld:w22.cell? ⟨gb225,0,none⟩=some (.int .i64 a0_0)∧w22.cell? ⟨gb225,1,none⟩=some (.int .i64 a0_1)∧w22.cell? ⟨gb225,2,none⟩=some (.int .i64 a0_2)∧w22.cell? ⟨gb225,3,none⟩=some (.int .i64 a0_3)∧w22.cell? ⟨gb226,0,none⟩=some (.int .i64 a1_0)∧w22.cell? ⟨gb226,1,none⟩=some (.int .i64 a1_1)∧w22.cell? ⟨gb226,2,none⟩=some (.int .i64 a1_2)∧w22.cell? ⟨gb226,3,none⟩=some (.int .i64 a1_3):=hS_;refine norm_ (a':=?_) ?_ ?_;rotate_left
           ·
            simp only [putAll,Act.put,List.setIfInBounds_toArray,List.set_cons_zero,List.set_cons_succ];rfl
           refine three_ (i:=3) (j:=4) (k:=5) (Ni:=some 26) (Nj:=some 7) (Nk:=some 8) #[true,true,true,true,false,false,false,false] #[true,true,true,false,true,false,false,false] #[true,true,true,false,false,true,false,false] rfl rfl rfl rfl rfl rfl (three_of HT_.out (by kernel_rfl)) (by decide) (by decide) (by decide) (fun K hK=>?_) (fun K hK=>?_) (fun K hK=>?_)
           ·
            skip
            refine goes_ Try.func48 (by kernel_rfl) rfl #[.agg #[.int .i64 a1_0,.int .i64 a1_1,.int .i64 a1_2,.int .i64 a1_3]] (by rfl) rfl rfl (by (try simp only [List.map_toArray,List.map_cons,List.map_nil]);first|done|rfl|(simp only [List.length_drop,List.length_take];rfl)) ?_;with_reducible refine (norm_of.calls a1_0 a1_1 a1_2 a1_3 t236 t237 t238 t239 _ A6.out).mono ?_
            rintro e w23 ⟨rfl,hb⟩;refine ⟨_,rfl,?_⟩;replace HO230:=rbl HO230 hb;replace BK225:=bkb BK225 hb;replace BK226:=bkb BK226 hb;replace BK227:=bkb BK227 hb;replace HB:=bst HB hb;(try clear hb);refine hK.out _ _ ⟨(blk_cell BK225.out 0).trans rfl,(blk_cell BK225.out 1).trans rfl,(blk_cell BK225.out 2).trans rfl,(blk_cell BK225.out 3).trans rfl,(blk_cell BK226.out 0).trans rfl,(blk_cell BK226.out 1).trans rfl,(blk_cell BK226.out 2).trans rfl,(blk_cell BK226.out 3).trans rfl⟩ (fun hHeld=>?_);clear hK K;refine norm_ (a':=?_) ?_ ?_;rotate_left
            ·
             show Act.put _ (some 26) _=_;simp only [Act.put,List.setIfInBounds_toArray,List.set_cons_zero,List.set_cons_succ,i64_w,i32_w];rfl
            exact norm_ (by simp only [putAll,Act.put,List.setIfInBounds_toArray,List.set_cons_zero,List.set_cons_succ] <;> rfl) (hJ1_3 () _ ⟨hHeld,HO230.out,BK225.out,BK226.out,BK227.out,HB.out⟩)
           ·
            skip
            refine box_step ?hg (N:=7) ?hd (cs:=#[.int .i64 0,.int .i64 0,.int .i64 0,.int .i64 0]) (t:=67) ?hr ?_;(case hd=>rfl);(case hg=>rfl);(case hr=>first|(go_simp;done)|(go_simp;rfl));intro gb240 hg w23 hbox hb;have BK240:=mk0 (hbox);have GW240:=szw hg HB;have GE240:=szw hg HB;have NB225_240:=nlt hg BK225;have NB240_225:=ngt hg BK225;have NB226_240:=nlt hg BK226;have NB240_226:=ngt hg BK226;have NB227_240:=nlt hg BK227;have NB240_227:=ngt hg BK227;replace HO230:=rbl HO230 hb;replace BK225:=bkb BK225 hb;replace BK226:=bkb BK226 hb;replace BK227:=bkb BK227 hb;replace HB:=bst HB hb;clear hb hbox hg;refine hK.out _ _ ⟨(blk_cell BK225.out 0).trans rfl,(blk_cell BK225.out 1).trans rfl,(blk_cell BK225.out 2).trans rfl,(blk_cell BK225.out 3).trans rfl,(blk_cell BK226.out 0).trans rfl,(blk_cell BK226.out 1).trans rfl,(blk_cell BK226.out 2).trans rfl,(blk_cell BK226.out 3).trans rfl⟩ (fun hHeld=>?_);clear hK K;refine norm_ (a':=?_) ?_ ?_;rotate_left
            ·
             show Act.put _ (some 7) _=_;simp only [Act.put,List.setIfInBounds_toArray,List.set_cons_zero,List.set_cons_succ,i64_w,i32_w];rfl
            exact norm_ (by simp only [putAll,Act.put,List.setIfInBounds_toArray,List.set_cons_zero,List.set_cons_succ] <;> rfl) (hJ1_4 (gb240) _ ⟨hHeld,HO230.out,BK225.out,BK226.out,BK227.out,BK240.out,GW240.out,GE240.out,NB225_240.out,NB240_225.out,NB226_240.out,NB240_226.out,NB227_240.out,NB240_227.out,HB.out⟩)
           ·
            skip
            refine box_step ?hg (N:=8) ?hd (cs:=#[.int .i64 0,.int .i64 0,.int .i64 0,.int .i64 0]) (t:=67) ?hr ?_;(case hd=>rfl);(case hg=>rfl);(case hr=>first|(go_simp;done)|(go_simp;rfl));intro gb241 hg w23 hbox hb;have BK241:=mk0 (hbox);have GW241:=szw hg HB;have GE241:=szw hg HB;have NB225_241:=nlt hg BK225;have NB241_225:=ngt hg BK225;have NB226_241:=nlt hg BK226;have NB241_226:=ngt hg BK226;have NB227_241:=nlt hg BK227;have NB241_227:=ngt hg BK227;replace HO230:=rbl HO230 hb;replace BK225:=bkb BK225 hb;replace BK226:=bkb BK226 hb;replace BK227:=bkb BK227 hb;replace HB:=bst HB hb;clear hb hbox hg;refine hK.out _ _ ⟨(blk_cell BK225.out 0).trans rfl,(blk_cell BK225.out 1).trans rfl,(blk_cell BK225.out 2).trans rfl,(blk_cell BK225.out 3).trans rfl,(blk_cell BK226.out 0).trans rfl,(blk_cell BK226.out 1).trans rfl,(blk_cell BK226.out 2).trans rfl,(blk_cell BK226.out 3).trans rfl⟩ (fun hHeld=>?_);clear hK K;refine norm_ (a':=?_) ?_ ?_;rotate_left
            ·
             show Act.put _ (some 8) _=_;simp only [Act.put,List.setIfInBounds_toArray,List.set_cons_zero,List.set_cons_succ,i64_w,i32_w];rfl
            exact norm_ (by simp only [putAll,Act.put,List.setIfInBounds_toArray,List.set_cons_zero,List.set_cons_succ] <;> rfl) (hJ1_5 (gb241) _ ⟨hHeld,HO230.out,BK225.out,BK226.out,BK227.out,BK241.out,GW241.out,GE241.out,NB225_241.out,NB241_225.out,NB226_241.out,NB241_226.out,NB227_241.out,NB241_227.out,HB.out⟩)
         ·
          skip
          clear HO230 BK225 BK226 BK227 HB;rintro ⟨gb240,gb241⟩ w23 hJ_;(try dsimp only at hJ_);obtain ⟨hS_,HO230,BK225,BK226,BK227,BK240,BK241,GW240,GE240,NB225_240,NB240_225,NB226_240,NB240_226,NB227_240,NB240_227,NB241_240,NB240_241,GW241,GE241,NB225_241,NB241_225,NB226_241,NB241_226,NB227_241,NB241_227,HB⟩:=hJ_;replace HO230:=mk0 HO230;replace BK225:=mk0 BK225;replace BK226:=mk0 BK226;replace BK227:=mk0 BK227;replace BK240:=mk0 BK240;replace BK241:=mk0 BK241;replace GW240:=mk0 GW240;replace GE240:=mk0 GE240;replace NB225_240:=mk0 NB225_240;replace NB240_225:=mk0 NB240_225;replace NB226_240:=mk0 NB226_240;replace NB240_226:=mk0 NB240_226;replace NB227_240:=mk0 NB227_240;replace NB240_227:=mk0 NB240_227;replace NB241_240:=mk0 NB241_240;replace NB240_241:=mk0 NB240_241;replace GW241:=mk0 GW241;replace GE241:=mk0 GE241;replace NB225_241:=mk0 NB225_241;replace NB241_225:=mk0 NB241_225;replace NB226_241:=mk0 NB226_241;replace NB241_226:=mk0 NB241_226;replace NB227_241:=mk0 NB227_241;replace NB241_227:=mk0 NB241_227;replace HB:=mk0 HB;have hHeld:w23.cell? ⟨gb225,0,none⟩=some (.int .i64 a0_0)∧w23.cell? ⟨gb225,1,none⟩=some (.int .i64 a0_1)∧w23.cell? ⟨gb225,2,none⟩=some (.int .i64 a0_2)∧w23.cell? ⟨gb225,3,none⟩=some (.int .i64 a0_3)∧w23.cell? ⟨gb226,0,none⟩=some (.int .i64 a1_0)∧w23.cell? ⟨gb226,1,none⟩=some (.int .i64 a1_1)∧w23.cell? ⟨gb226,2,none⟩=some (.int .i64 a1_2)∧w23.cell? ⟨gb226,3,none⟩=some (.int .i64 a1_3):=hS_;refine norm_ (a':=?_) ?_ ?_;rotate_left
          ·
           simp only [putAll,Act.put,List.setIfInBounds_toArray,List.set_cons_zero,List.set_cons_succ];rfl
          refine one_ (i:=1) (N:=some 24) #[true,true,true,false,true,true,false,false] rfl rfl (one_of HT_.out (by kernel_rfl)) (by decide) (fun K hK=>?_);refine goes_ Try.func48 (by kernel_rfl) rfl #[.agg #[.int .i64 a0_0,.int .i64 a0_1,.int .i64 a0_2,.int .i64 a0_3]] (by rfl) rfl rfl (by (try simp only [List.map_toArray,List.map_cons,List.map_nil]);first|done|rfl|(simp only [List.length_drop,List.length_take];rfl)) ?_;with_reducible refine (norm_of.calls a0_0 a0_1 a0_2 a0_3 t232 t233 t234 t235 _ A5.out).mono ?_
          rintro e w24 ⟨rfl,hb⟩;refine ⟨_,rfl,?_⟩;replace HO230:=rbl HO230 hb;replace BK225:=bkb BK225 hb;replace BK226:=bkb BK226 hb;replace BK227:=bkb BK227 hb;replace BK240:=bkb BK240 hb;replace BK241:=bkb BK241 hb;replace HB:=bst HB hb;(try clear hb);refine hK.out _ _ ⟨(blk_cell BK225.out 0).trans rfl,(blk_cell BK225.out 1).trans rfl,(blk_cell BK225.out 2).trans rfl,(blk_cell BK225.out 3).trans rfl,(blk_cell BK226.out 0).trans rfl,(blk_cell BK226.out 1).trans rfl,(blk_cell BK226.out 2).trans rfl,(blk_cell BK226.out 3).trans rfl⟩ (fun hHeld=>?_);clear hK K;refine norm_ (a':=?_) ?_ ?_;rotate_left
          ·
           show Act.put _ (some 24) _=_;simp only [Act.put,List.setIfInBounds_toArray,List.set_cons_zero,List.set_cons_succ,i64_w,i32_w];rfl
          exact norm_ (by simp only [putAll,Act.put,List.setIfInBounds_toArray,List.set_cons_zero,List.set_cons_succ] <;> rfl) (hJ1_4_5 (gb240,gb241) _ ⟨hHeld,HO230.out,BK225.out,BK226.out,BK227.out,BK240.out,BK241.out,GW240.out,GE240.out,NB225_240.out,NB240_225.out,NB226_240.out,NB240_226.out,NB227_240.out,NB240_227.out,NB241_240.out,NB240_241.out,GW241.out,GE241.out,NB225_241.out,NB241_225.out,NB226_241.out,NB241_226.out,NB227_241.out,NB241_227.out,HB.out⟩)
        ·
         skip
         clear HO230 BK225 BK226 BK227 HB;rintro gb241 w23 hJ_;obtain ⟨hS_,HO230,BK225,BK226,BK227,BK241,GW241,GE241,NB225_241,NB241_225,NB226_241,NB241_226,NB227_241,NB241_227,HB⟩:=hJ_;replace HO230:=mk0 HO230;replace BK225:=mk0 BK225;replace BK226:=mk0 BK226;replace BK227:=mk0 BK227;replace BK241:=mk0 BK241;replace GW241:=mk0 GW241;replace GE241:=mk0 GE241;replace NB225_241:=mk0 NB225_241;replace NB241_225:=mk0 NB241_225;replace NB226_241:=mk0 NB226_241;replace NB241_226:=mk0 NB241_226;replace NB227_241:=mk0 NB227_241;replace NB241_227:=mk0 NB241_227;replace HB:=mk0 HB;have hHeld:w23.cell? ⟨gb225,0,none⟩=some (.int .i64 a0_0)∧w23.cell? ⟨gb225,1,none⟩=some (.int .i64 a0_1)∧w23.cell? ⟨gb225,2,none⟩=some (.int .i64 a0_2)∧w23.cell? ⟨gb225,3,none⟩=some (.int .i64 a0_3)∧w23.cell? ⟨gb226,0,none⟩=some (.int .i64 a1_0)∧w23.cell? ⟨gb226,1,none⟩=some (.int .i64 a1_1)∧w23.cell? ⟨gb226,2,none⟩=some (.int .i64 a1_2)∧w23.cell? ⟨gb226,3,none⟩=some (.int .i64 a1_3):=hS_;refine norm_ (a':=?_) ?_ ?_;rotate_left
         ·
          simp only [putAll,Act.put,List.setIfInBounds_toArray,List.set_cons_zero,List.set_cons_succ];rfl
         refine two_ (i:=3) (j:=4) (Ni:=some 26) (Nj:=some 7) #[true,true,true,true,false,true,false,false] #[true,true,true,false,true,true,false,false] rfl rfl rfl rfl (two_of HT_.out (by kernel_rfl)) (by decide) (by decide) (fun K hK=>?_) (fun K hK=>?_)
         ·
          skip
          refine goes_ Try.func48 (by kernel_rfl) rfl #[.agg #[.int .i64 a1_0,.int .i64 a1_1,.int .i64 a1_2,.int .i64 a1_3]] (by rfl) rfl rfl (by (try simp only [List.map_toArray,List.map_cons,List.map_nil]);first|done|rfl|(simp only [List.length_drop,List.length_take];rfl)) ?_;with_reducible refine (norm_of.calls a1_0 a1_1 a1_2 a1_3 t236 t237 t238 t239 _ A6.out).mono ?_
          rintro e w24 ⟨rfl,hb⟩;refine ⟨_,rfl,?_⟩;replace HO230:=rbl HO230 hb;replace BK225:=bkb BK225 hb;replace BK226:=bkb BK226 hb;replace BK227:=bkb BK227 hb;replace BK241:=bkb BK241 hb;replace HB:=bst HB hb;(try clear hb);refine hK.out _ _ ⟨(blk_cell BK225.out 0).trans rfl,(blk_cell BK225.out 1).trans rfl,(blk_cell BK225.out 2).trans rfl,(blk_cell BK225.out 3).trans rfl,(blk_cell BK226.out 0).trans rfl,(blk_cell BK226.out 1).trans rfl,(blk_cell BK226.out 2).trans rfl,(blk_cell BK226.out 3).trans rfl⟩ (fun hHeld=>?_);clear hK K;refine norm_ (a':=?_) ?_ ?_;rotate_left
          ·
           show Act.put _ (some 26) _=_;simp only [Act.put,List.setIfInBounds_toArray,List.set_cons_zero,List.set_cons_succ,i64_w,i32_w];rfl
          exact norm_ (by simp only [putAll,Act.put,List.setIfInBounds_toArray,List.set_cons_zero,List.set_cons_succ] <;> rfl) (hJ1_3_5 (gb241) _ ⟨hHeld,HO230.out,BK225.out,BK226.out,BK227.out,BK241.out,GW241.out,GE241.out,NB225_241.out,NB241_225.out,NB226_241.out,NB241_226.out,NB227_241.out,NB241_227.out,HB.out⟩)
         ·
          skip
          refine box_step ?hg (N:=7) ?hd (cs:=#[.int .i64 0,.int .i64 0,.int .i64 0,.int .i64 0]) (t:=67) ?hr ?_;(case hd=>rfl);(case hg=>rfl);(case hr=>first|(go_simp;done)|(go_simp;rfl));intro gb240 hg w24 hbox hb;have BK240:=mk0 (hbox);have GW240:=szw hg HB;have GE240:=szw hg HB;have NB225_240:=nlt hg BK225;have NB240_225:=ngt hg BK225;have NB226_240:=nlt hg BK226;have NB240_226:=ngt hg BK226;have NB227_240:=nlt hg BK227;have NB240_227:=ngt hg BK227;have NB241_240:=nlt hg BK241;have NB240_241:=ngt hg BK241;replace HO230:=rbl HO230 hb;replace BK225:=bkb BK225 hb;replace BK226:=bkb BK226 hb;replace BK227:=bkb BK227 hb;replace BK241:=bkb BK241 hb;replace HB:=bst HB hb;clear hb hbox hg;refine hK.out _ _ ⟨(blk_cell BK225.out 0).trans rfl,(blk_cell BK225.out 1).trans rfl,(blk_cell BK225.out 2).trans rfl,(blk_cell BK225.out 3).trans rfl,(blk_cell BK226.out 0).trans rfl,(blk_cell BK226.out 1).trans rfl,(blk_cell BK226.out 2).trans rfl,(blk_cell BK226.out 3).trans rfl⟩ (fun hHeld=>?_);clear hK K;refine norm_ (a':=?_) ?_ ?_;rotate_left
          ·
           show Act.put _ (some 7) _=_;simp only [Act.put,List.setIfInBounds_toArray,List.set_cons_zero,List.set_cons_succ,i64_w,i32_w];rfl
          exact norm_ (by simp only [putAll,Act.put,List.setIfInBounds_toArray,List.set_cons_zero,List.set_cons_succ] <;> rfl) (hJ1_4_5 (gb240,gb241) _ ⟨hHeld,HO230.out,BK225.out,BK226.out,BK227.out,BK240.out,BK241.out,GW240.out,GE240.out,NB225_240.out,NB240_225.out,NB226_240.out,NB240_226.out,NB227_240.out,NB240_227.out,NB241_240.out,NB240_241.out,GW241.out,GE241.out,NB225_241.out,NB241_225.out,NB226_241.out,NB241_226.out,NB227_241.out,NB241_227.out,HB.out⟩)
       ·
        skip
        clear HO230 BK225 BK226 BK227 HB;rintro gb240 w23 hJ_;obtain ⟨hS_,HO230,BK225,BK226,BK227,BK240,GW240,GE240,NB225_240,NB240_225,NB226_240,NB240_226,NB227_240,NB240_227,HB⟩:=hJ_;replace HO230:=mk0 HO230;replace BK225:=mk0 BK225;replace BK226:=mk0 BK226;replace BK227:=mk0 BK227;replace BK240:=mk0 BK240;replace GW240:=mk0 GW240;replace GE240:=mk0 GE240;replace NB225_240:=mk0 NB225_240;replace NB240_225:=mk0 NB240_225;replace NB226_240:=mk0 NB226_240;replace NB240_226:=mk0 NB240_226;replace NB227_240:=mk0 NB227_240;replace NB240_227:=mk0 NB240_227;replace HB:=mk0 HB;have hHeld:w23.cell? ⟨gb225,0,none⟩=some (.int .i64 a0_0)∧w23.cell? ⟨gb225,1,none⟩=some (.int .i64 a0_1)∧w23.cell? ⟨gb225,2,none⟩=some (.int .i64 a0_2)∧w23.cell? ⟨gb225,3,none⟩=some (.int .i64 a0_3)∧w23.cell? ⟨gb226,0,none⟩=some (.int .i64 a1_0)∧w23.cell? ⟨gb226,1,none⟩=some (.int .i64 a1_1)∧w23.cell? ⟨gb226,2,none⟩=some (.int .i64 a1_2)∧w23.cell? ⟨gb226,3,none⟩=some (.int .i64 a1_3):=hS_;refine norm_ (a':=?_) ?_ ?_;rotate_left
        ·
         simp only [putAll,Act.put,List.setIfInBounds_toArray,List.set_cons_zero,List.set_cons_succ];rfl
        refine two_ (i:=3) (j:=5) (Ni:=some 26) (Nj:=some 8) #[true,true,true,true,true,false,false,false] #[true,true,true,false,true,true,false,false] rfl rfl rfl rfl (two_of HT_.out (by kernel_rfl)) (by decide) (by decide) (fun K hK=>?_) (fun K hK=>?_)
        ·
         skip
         refine goes_ Try.func48 (by kernel_rfl) rfl #[.agg #[.int .i64 a1_0,.int .i64 a1_1,.int .i64 a1_2,.int .i64 a1_3]] (by rfl) rfl rfl (by (try simp only [List.map_toArray,List.map_cons,List.map_nil]);first|done|rfl|(simp only [List.length_drop,List.length_take];rfl)) ?_;with_reducible refine (norm_of.calls a1_0 a1_1 a1_2 a1_3 t236 t237 t238 t239 _ A6.out).mono ?_
         rintro e w24 ⟨rfl,hb⟩;refine ⟨_,rfl,?_⟩;replace HO230:=rbl HO230 hb;replace BK225:=bkb BK225 hb;replace BK226:=bkb BK226 hb;replace BK227:=bkb BK227 hb;replace BK240:=bkb BK240 hb;replace HB:=bst HB hb;(try clear hb);refine hK.out _ _ ⟨(blk_cell BK225.out 0).trans rfl,(blk_cell BK225.out 1).trans rfl,(blk_cell BK225.out 2).trans rfl,(blk_cell BK225.out 3).trans rfl,(blk_cell BK226.out 0).trans rfl,(blk_cell BK226.out 1).trans rfl,(blk_cell BK226.out 2).trans rfl,(blk_cell BK226.out 3).trans rfl⟩ (fun hHeld=>?_);clear hK K;refine norm_ (a':=?_) ?_ ?_;rotate_left
         ·
          show Act.put _ (some 26) _=_;simp only [Act.put,List.setIfInBounds_toArray,List.set_cons_zero,List.set_cons_succ,i64_w,i32_w];rfl
         exact norm_ (by simp only [putAll,Act.put,List.setIfInBounds_toArray,List.set_cons_zero,List.set_cons_succ] <;> rfl) (hJ1_3_4 (gb240) _ ⟨hHeld,HO230.out,BK225.out,BK226.out,BK227.out,BK240.out,GW240.out,GE240.out,NB225_240.out,NB240_225.out,NB226_240.out,NB240_226.out,NB227_240.out,NB240_227.out,HB.out⟩)
        ·
         skip
         refine box_step ?hg (N:=8) ?hd (cs:=#[.int .i64 0,.int .i64 0,.int .i64 0,.int .i64 0]) (t:=67) ?hr ?_;(case hd=>rfl);(case hg=>rfl);(case hr=>first|(go_simp;done)|(go_simp;rfl));intro gb241 hg w24 hbox hb;have BK241:=mk0 (hbox);have GW241:=szw hg HB;have GE241:=szw hg HB;have NB225_241:=nlt hg BK225;have NB241_225:=ngt hg BK225;have NB226_241:=nlt hg BK226;have NB241_226:=ngt hg BK226;have NB227_241:=nlt hg BK227;have NB241_227:=ngt hg BK227;have NB240_241:=nlt hg BK240;have NB241_240:=ngt hg BK240;replace HO230:=rbl HO230 hb;replace BK225:=bkb BK225 hb;replace BK226:=bkb BK226 hb;replace BK227:=bkb BK227 hb;replace BK240:=bkb BK240 hb;replace HB:=bst HB hb;clear hb hbox hg;refine hK.out _ _ ⟨(blk_cell BK225.out 0).trans rfl,(blk_cell BK225.out 1).trans rfl,(blk_cell BK225.out 2).trans rfl,(blk_cell BK225.out 3).trans rfl,(blk_cell BK226.out 0).trans rfl,(blk_cell BK226.out 1).trans rfl,(blk_cell BK226.out 2).trans rfl,(blk_cell BK226.out 3).trans rfl⟩ (fun hHeld=>?_);clear hK K;refine norm_ (a':=?_) ?_ ?_;rotate_left
         ·
          show Act.put _ (some 8) _=_;simp only [Act.put,List.setIfInBounds_toArray,List.set_cons_zero,List.set_cons_succ,i64_w,i32_w];rfl
         exact norm_ (by simp only [putAll,Act.put,List.setIfInBounds_toArray,List.set_cons_zero,List.set_cons_succ] <;> rfl) (hJ1_4_5 (gb240,gb241) _ ⟨hHeld,HO230.out,BK225.out,BK226.out,BK227.out,BK240.out,BK241.out,GW240.out,GE240.out,NB225_240.out,NB240_225.out,NB226_240.out,NB240_226.out,NB227_240.out,NB240_227.out,NB241_240.out,NB240_241.out,GW241.out,GE241.out,NB225_241.out,NB241_225.out,NB226_241.out,NB241_226.out,NB227_241.out,NB241_227.out,HB.out⟩)
      ·
       skip
       clear HO230 BK225 BK226 BK227 HB;rintro _ w23 hJ_;obtain ⟨hS_,HO230,BK225,BK226,BK227,HB⟩:=hJ_;replace HO230:=mk0 HO230;replace BK225:=mk0 BK225;replace BK226:=mk0 BK226;replace BK227:=mk0 BK227;replace HB:=mk0 HB;have hHeld:w23.cell? ⟨gb225,0,none⟩=some (.int .i64 a0_0)∧w23.cell? ⟨gb225,1,none⟩=some (.int .i64 a0_1)∧w23.cell? ⟨gb225,2,none⟩=some (.int .i64 a0_2)∧w23.cell? ⟨gb225,3,none⟩=some (.int .i64 a0_3)∧w23.cell? ⟨gb226,0,none⟩=some (.int .i64 a1_0)∧w23.cell? ⟨gb226,1,none⟩=some (.int .i64 a1_1)∧w23.cell? ⟨gb226,2,none⟩=some (.int .i64 a1_2)∧w23.cell? ⟨gb226,3,none⟩=some (.int .i64 a1_3):=hS_;refine norm_ (a':=?_) ?_ ?_;rotate_left
       ·
        simp only [putAll,Act.put,List.setIfInBounds_toArray,List.set_cons_zero,List.set_cons_succ];rfl
       refine two_ (i:=4) (j:=5) (Ni:=some 7) (Nj:=some 8) #[true,true,true,true,true,false,false,false] #[true,true,true,true,false,true,false,false] rfl rfl rfl rfl (two_of HT_.out (by kernel_rfl)) (by decide) (by decide) (fun K hK=>?_) (fun K hK=>?_)
       ·
        skip
        refine box_step ?hg (N:=7) ?hd (cs:=#[.int .i64 0,.int .i64 0,.int .i64 0,.int .i64 0]) (t:=67) ?hr ?_;(case hd=>rfl);(case hg=>rfl);(case hr=>first|(go_simp;done)|(go_simp;rfl));intro gb240 hg w24 hbox hb;have BK240:=mk0 (hbox);have GW240:=szw hg HB;have GE240:=szw hg HB;have NB225_240:=nlt hg BK225;have NB240_225:=ngt hg BK225;have NB226_240:=nlt hg BK226;have NB240_226:=ngt hg BK226;have NB227_240:=nlt hg BK227;have NB240_227:=ngt hg BK227;replace HO230:=rbl HO230 hb;replace BK225:=bkb BK225 hb;replace BK226:=bkb BK226 hb;replace BK227:=bkb BK227 hb;replace HB:=bst HB hb;clear hb hbox hg;refine hK.out _ _ ⟨(blk_cell BK225.out 0).trans rfl,(blk_cell BK225.out 1).trans rfl,(blk_cell BK225.out 2).trans rfl,(blk_cell BK225.out 3).trans rfl,(blk_cell BK226.out 0).trans rfl,(blk_cell BK226.out 1).trans rfl,(blk_cell BK226.out 2).trans rfl,(blk_cell BK226.out 3).trans rfl⟩ (fun hHeld=>?_);clear hK K;refine norm_ (a':=?_) ?_ ?_;rotate_left
        ·
         show Act.put _ (some 7) _=_;simp only [Act.put,List.setIfInBounds_toArray,List.set_cons_zero,List.set_cons_succ,i64_w,i32_w];rfl
        exact norm_ (by simp only [putAll,Act.put,List.setIfInBounds_toArray,List.set_cons_zero,List.set_cons_succ] <;> rfl) (hJ1_3_4 (gb240) _ ⟨hHeld,HO230.out,BK225.out,BK226.out,BK227.out,BK240.out,GW240.out,GE240.out,NB225_240.out,NB240_225.out,NB226_240.out,NB240_226.out,NB227_240.out,NB240_227.out,HB.out⟩)
       ·
        skip
        refine box_step ?hg (N:=8) ?hd (cs:=#[.int .i64 0,.int .i64 0,.int .i64 0,.int .i64 0]) (t:=67) ?hr ?_;(case hd=>rfl);(case hg=>rfl);(case hr=>first|(go_simp;done)|(go_simp;rfl));intro gb241 hg w24 hbox hb;have BK241:=mk0 (hbox);have GW241:=szw hg HB;have GE241:=szw hg HB;have NB225_241:=nlt hg BK225;have NB241_225:=ngt hg BK225;have NB226_241:=nlt hg BK226;have NB241_226:=ngt hg BK226;have NB227_241:=nlt hg BK227;have NB241_227:=ngt hg BK227;replace HO230:=rbl HO230 hb;replace BK225:=bkb BK225 hb;replace BK226:=bkb BK226 hb;replace BK227:=bkb BK227 hb;replace HB:=bst HB hb;clear hb hbox hg;refine hK.out _ _ ⟨(blk_cell BK225.out 0).trans rfl,(blk_cell BK225.out 1).trans rfl,(blk_cell BK225.out 2).trans rfl,(blk_cell BK225.out 3).trans rfl,(blk_cell BK226.out 0).trans rfl,(blk_cell BK226.out 1).trans rfl,(blk_cell BK226.out 2).trans rfl,(blk_cell BK226.out 3).trans rfl⟩ (fun hHeld=>?_);clear hK K;refine norm_ (a':=?_) ?_ ?_;rotate_left
        ·
         show Act.put _ (some 8) _=_;simp only [Act.put,List.setIfInBounds_toArray,List.set_cons_zero,List.set_cons_succ,i64_w,i32_w];rfl
        exact norm_ (by simp only [putAll,Act.put,List.setIfInBounds_toArray,List.set_cons_zero,List.set_cons_succ] <;> rfl) (hJ1_3_5 (gb241) _ ⟨hHeld,HO230.out,BK225.out,BK226.out,BK227.out,BK241.out,GW241.out,GE241.out,NB225_241.out,NB241_225.out,NB226_241.out,NB241_226.out,NB227_241.out,NB241_227.out,HB.out⟩)
     ·
      skip
      clear HO230 BK225 BK226 BK227 HB;rintro ⟨gb240,gb241⟩ w24 hJ_;(try dsimp only at hJ_);obtain ⟨hS_,HO230,BK225,BK226,BK227,BK240,BK241,GW240,GE240,NB225_240,NB240_225,NB226_240,NB240_226,NB227_240,NB240_227,NB241_240,NB240_241,GW241,GE241,NB225_241,NB241_225,NB226_241,NB241_226,NB227_241,NB241_227,HB⟩:=hJ_;replace HO230:=mk0 HO230;replace BK225:=mk0 BK225;replace BK226:=mk0 BK226;replace BK227:=mk0 BK227;replace BK240:=mk0 BK240;replace BK241:=mk0 BK241;replace GW240:=mk0 GW240;replace GE240:=mk0 GE240;replace NB225_240:=mk0 NB225_240;replace NB240_225:=mk0 NB240_225;replace NB226_240:=mk0 NB226_240;replace NB240_226:=mk0 NB240_226;replace NB227_240:=mk0 NB227_240;replace NB240_227:=mk0 NB240_227;replace NB241_240:=mk0 NB241_240;replace NB240_241:=mk0 NB240_241;replace GW241:=mk0 GW241;replace GE241:=mk0 GE241;replace NB225_241:=mk0 NB225_241;replace NB241_225:=mk0 NB241_225;replace NB226_241:=mk0 NB226_241;replace NB241_226:=mk0 NB241_226;replace NB227_241:=mk0 NB227_241;replace NB241_227:=mk0 NB241_227;replace HB:=mk0 HB;have hHeld:w24.cell? ⟨gb225,0,none⟩=some (.int .i64 a0_0)∧w24.cell? ⟨gb225,1,none⟩=some (.int .i64 a0_1)∧w24.cell? ⟨gb225,2,none⟩=some (.int .i64 a0_2)∧w24.cell? ⟨gb225,3,none⟩=some (.int .i64 a0_3)∧w24.cell? ⟨gb226,0,none⟩=some (.int .i64 a1_0)∧w24.cell? ⟨gb226,1,none⟩=some (.int .i64 a1_1)∧w24.cell? ⟨gb226,2,none⟩=some (.int .i64 a1_2)∧w24.cell? ⟨gb226,3,none⟩=some (.int .i64 a1_3):=hS_;refine norm_ (a':=?_) ?_ ?_;rotate_left
      ·
       simp only [putAll,Act.put,List.setIfInBounds_toArray,List.set_cons_zero,List.set_cons_succ];rfl
      refine one_ (i:=3) (N:=some 26) #[true,true,true,true,true,true,false,false] rfl rfl (one_of HT_.out (by kernel_rfl)) (by decide) (fun K hK=>?_);refine goes_ Try.func48 (by kernel_rfl) rfl #[.agg #[.int .i64 a1_0,.int .i64 a1_1,.int .i64 a1_2,.int .i64 a1_3]] (by rfl) rfl rfl (by (try simp only [List.map_toArray,List.map_cons,List.map_nil]);first|done|rfl|(simp only [List.length_drop,List.length_take];rfl)) ?_;with_reducible refine (norm_of.calls a1_0 a1_1 a1_2 a1_3 t236 t237 t238 t239 _ A6.out).mono ?_
      rintro e w25 ⟨rfl,hb⟩;refine ⟨_,rfl,?_⟩;replace HO230:=rbl HO230 hb;replace BK225:=bkb BK225 hb;replace BK226:=bkb BK226 hb;replace BK227:=bkb BK227 hb;replace BK240:=bkb BK240 hb;replace BK241:=bkb BK241 hb;replace HB:=bst HB hb;(try clear hb);refine hK.out _ _ ⟨(blk_cell BK225.out 0).trans rfl,(blk_cell BK225.out 1).trans rfl,(blk_cell BK225.out 2).trans rfl,(blk_cell BK225.out 3).trans rfl,(blk_cell BK226.out 0).trans rfl,(blk_cell BK226.out 1).trans rfl,(blk_cell BK226.out 2).trans rfl,(blk_cell BK226.out 3).trans rfl⟩ (fun hHeld=>?_);clear hK K;refine norm_ (a':=?_) ?_ ?_;rotate_left
      ·
       show Act.put _ (some 26) _=_;simp only [Act.put,List.setIfInBounds_toArray,List.set_cons_zero,List.set_cons_succ,i64_w,i32_w];rfl
      exact norm_ (by simp only [putAll,Act.put,List.setIfInBounds_toArray,List.set_cons_zero,List.set_cons_succ] <;> rfl) (hJ1_3_4_5 (gb240,gb241) _ ⟨hHeld,HO230.out,BK225.out,BK226.out,BK227.out,BK240.out,BK241.out,GW240.out,GE240.out,NB225_240.out,NB240_225.out,NB226_240.out,NB240_226.out,NB227_240.out,NB240_227.out,NB241_240.out,NB240_241.out,GW241.out,GE241.out,NB225_241.out,NB241_225.out,NB226_241.out,NB241_226.out,NB227_241.out,NB241_227.out,HB.out⟩)
    ·
     skip
     clear HO230 BK225 BK226 BK227 HB;rintro gb241 w24 hJ_;obtain ⟨hS_,HO230,BK225,BK226,BK227,BK241,GW241,GE241,NB225_241,NB241_225,NB226_241,NB241_226,NB227_241,NB241_227,HB⟩:=hJ_;replace HO230:=mk0 HO230;replace BK225:=mk0 BK225;replace BK226:=mk0 BK226;replace BK227:=mk0 BK227;replace BK241:=mk0 BK241;replace GW241:=mk0 GW241;replace GE241:=mk0 GE241;replace NB225_241:=mk0 NB225_241;replace NB241_225:=mk0 NB241_225;replace NB226_241:=mk0 NB226_241;replace NB241_226:=mk0 NB241_226;replace NB227_241:=mk0 NB227_241;replace NB241_227:=mk0 NB241_227;replace HB:=mk0 HB;have hHeld:w24.cell? ⟨gb225,0,none⟩=some (.int .i64 a0_0)∧w24.cell? ⟨gb225,1,none⟩=some (.int .i64 a0_1)∧w24.cell? ⟨gb225,2,none⟩=some (.int .i64 a0_2)∧w24.cell? ⟨gb225,3,none⟩=some (.int .i64 a0_3)∧w24.cell? ⟨gb226,0,none⟩=some (.int .i64 a1_0)∧w24.cell? ⟨gb226,1,none⟩=some (.int .i64 a1_1)∧w24.cell? ⟨gb226,2,none⟩=some (.int .i64 a1_2)∧w24.cell? ⟨gb226,3,none⟩=some (.int .i64 a1_3):=hS_;refine norm_ (a':=?_) ?_ ?_;rotate_left
     ·
      simp only [putAll,Act.put,List.setIfInBounds_toArray,List.set_cons_zero,List.set_cons_succ];rfl
     refine one_ (i:=4) (N:=some 7) #[true,true,true,true,true,true,false,false] rfl rfl (one_of HT_.out (by kernel_rfl)) (by decide) (fun K hK=>?_);refine box_step ?hg (N:=7) ?hd (cs:=#[.int .i64 0,.int .i64 0,.int .i64 0,.int .i64 0]) (t:=67) ?hr ?_;(case hd=>rfl);(case hg=>rfl);(case hr=>first|(go_simp;done)|(go_simp;rfl));intro gb240 hg w25 hbox hb;have BK240:=mk0 (hbox);have GW240:=szw hg HB;have GE240:=szw hg HB;have NB225_240:=nlt hg BK225;have NB240_225:=ngt hg BK225;have NB226_240:=nlt hg BK226;have NB240_226:=ngt hg BK226;have NB227_240:=nlt hg BK227;have NB240_227:=ngt hg BK227;have NB241_240:=nlt hg BK241;have NB240_241:=ngt hg BK241;replace HO230:=rbl HO230 hb;replace BK225:=bkb BK225 hb;replace BK226:=bkb BK226 hb;replace BK227:=bkb BK227 hb;replace BK241:=bkb BK241 hb;replace HB:=bst HB hb;clear hb hbox hg;refine hK.out _ _ ⟨(blk_cell BK225.out 0).trans rfl,(blk_cell BK225.out 1).trans rfl,(blk_cell BK225.out 2).trans rfl,(blk_cell BK225.out 3).trans rfl,(blk_cell BK226.out 0).trans rfl,(blk_cell BK226.out 1).trans rfl,(blk_cell BK226.out 2).trans rfl,(blk_cell BK226.out 3).trans rfl⟩ (fun hHeld=>?_);clear hK K;refine norm_ (a':=?_) ?_ ?_;rotate_left
     ·
      show Act.put _ (some 7) _=_;simp only [Act.put,List.setIfInBounds_toArray,List.set_cons_zero,List.set_cons_succ,i64_w,i32_w];rfl
     exact norm_ (by simp only [putAll,Act.put,List.setIfInBounds_toArray,List.set_cons_zero,List.set_cons_succ] <;> rfl) (hJ1_3_4_5 (gb240,gb241) _ ⟨hHeld,HO230.out,BK225.out,BK226.out,BK227.out,BK240.out,BK241.out,GW240.out,GE240.out,NB225_240.out,NB240_225.out,NB226_240.out,NB240_226.out,NB227_240.out,NB240_227.out,NB241_240.out,NB240_241.out,GW241.out,GE241.out,NB225_241.out,NB241_225.out,NB226_241.out,NB241_226.out,NB227_241.out,NB241_227.out,HB.out⟩)
   ·
    skip
    clear HO230 BK225 BK226 BK227 HB;rintro gb240 w24 hJ_;obtain ⟨hS_,HO230,BK225,BK226,BK227,BK240,GW240,GE240,NB225_240,NB240_225,NB226_240,NB240_226,NB227_240,NB240_227,HB⟩:=hJ_;replace HO230:=mk0 HO230;replace BK225:=mk0 BK225;replace BK226:=mk0 BK226;replace BK227:=mk0 BK227;replace BK240:=mk0 BK240;replace GW240:=mk0 GW240;replace GE240:=mk0 GE240;replace NB225_240:=mk0 NB225_240;replace NB240_225:=mk0 NB240_225;replace NB226_240:=mk0 NB226_240;replace NB240_226:=mk0 NB240_226;replace NB227_240:=mk0 NB227_240;replace NB240_227:=mk0 NB240_227;replace HB:=mk0 HB;have hHeld:w24.cell? ⟨gb225,0,none⟩=some (.int .i64 a0_0)∧w24.cell? ⟨gb225,1,none⟩=some (.int .i64 a0_1)∧w24.cell? ⟨gb225,2,none⟩=some (.int .i64 a0_2)∧w24.cell? ⟨gb225,3,none⟩=some (.int .i64 a0_3)∧w24.cell? ⟨gb226,0,none⟩=some (.int .i64 a1_0)∧w24.cell? ⟨gb226,1,none⟩=some (.int .i64 a1_1)∧w24.cell? ⟨gb226,2,none⟩=some (.int .i64 a1_2)∧w24.cell? ⟨gb226,3,none⟩=some (.int .i64 a1_3):=hS_;refine norm_ (a':=?_) ?_ ?_;rotate_left
    ·
     simp only [putAll,Act.put,List.setIfInBounds_toArray,List.set_cons_zero,List.set_cons_succ];rfl
    refine one_ (i:=5) (N:=some 8) #[true,true,true,true,true,true,false,false] rfl rfl (one_of HT_.out (by kernel_rfl)) (by decide) (fun K hK=>?_);refine box_step ?hg (N:=8) ?hd (cs:=#[.int .i64 0,.int .i64 0,.int .i64 0,.int .i64 0]) (t:=67) ?hr ?_;(case hd=>rfl);(case hg=>rfl);(case hr=>first|(go_simp;done)|(go_simp;rfl));intro gb241 hg w25 hbox hb;have BK241:=mk0 (hbox);have GW241:=szw hg HB;have GE241:=szw hg HB;have NB225_241:=nlt hg BK225;have NB241_225:=ngt hg BK225;have NB226_241:=nlt hg BK226;have NB241_226:=ngt hg BK226;have NB227_241:=nlt hg BK227;have NB241_227:=ngt hg BK227;have NB240_241:=nlt hg BK240;have NB241_240:=ngt hg BK240;replace HO230:=rbl HO230 hb;replace BK225:=bkb BK225 hb;replace BK226:=bkb BK226 hb;replace BK227:=bkb BK227 hb;replace BK240:=bkb BK240 hb;replace HB:=bst HB hb;clear hb hbox hg;refine hK.out _ _ ⟨(blk_cell BK225.out 0).trans rfl,(blk_cell BK225.out 1).trans rfl,(blk_cell BK225.out 2).trans rfl,(blk_cell BK225.out 3).trans rfl,(blk_cell BK226.out 0).trans rfl,(blk_cell BK226.out 1).trans rfl,(blk_cell BK226.out 2).trans rfl,(blk_cell BK226.out 3).trans rfl⟩ (fun hHeld=>?_);clear hK K;refine norm_ (a':=?_) ?_ ?_;rotate_left
    ·
     show Act.put _ (some 8) _=_;simp only [Act.put,List.setIfInBounds_toArray,List.set_cons_zero,List.set_cons_succ,i64_w,i32_w];rfl
    exact norm_ (by simp only [putAll,Act.put,List.setIfInBounds_toArray,List.set_cons_zero,List.set_cons_succ] <;> rfl) (hJ1_3_4_5 (gb240,gb241) _ ⟨hHeld,HO230.out,BK225.out,BK226.out,BK227.out,BK240.out,BK241.out,GW240.out,GE240.out,NB225_240.out,NB240_225.out,NB226_240.out,NB240_226.out,NB227_240.out,NB240_227.out,NB241_240.out,NB240_241.out,GW241.out,GE241.out,NB225_241.out,NB241_225.out,NB226_241.out,NB241_226.out,NB227_241.out,NB241_227.out,HB.out⟩)
  clear HO230 BK225 BK226 BK227 HB;rintro ⟨gb240,gb241⟩ w25 hJ_;(try dsimp only at hJ_);obtain ⟨hS_,HO230,BK225,BK226,BK227,BK240,BK241,GW240,GE240,NB225_240,NB240_225,NB226_240,NB240_226,NB227_240,NB240_227,NB241_240,NB240_241,GW241,GE241,NB225_241,NB241_225,NB226_241,NB241_226,NB227_241,NB241_227,HB⟩:=hJ_;replace HO230:=mk0 HO230;replace BK225:=mk0 BK225;replace BK226:=mk0 BK226;replace BK227:=mk0 BK227;replace BK240:=mk0 BK240;replace BK241:=mk0 BK241;replace GW240:=mk0 GW240;replace GE240:=mk0 GE240;replace NB225_240:=mk0 NB225_240;replace NB240_225:=mk0 NB240_225;replace NB226_240:=mk0 NB226_240;replace NB240_226:=mk0 NB240_226;replace NB227_240:=mk0 NB227_240;replace NB240_227:=mk0 NB240_227;replace NB241_240:=mk0 NB241_240;replace NB240_241:=mk0 NB240_241;replace GW241:=mk0 GW241;replace GE241:=mk0 GE241;replace NB225_241:=mk0 NB225_241;replace NB241_225:=mk0 NB241_225;replace NB226_241:=mk0 NB226_241;replace NB241_226:=mk0 NB241_226;replace NB227_241:=mk0 NB227_241;replace NB241_227:=mk0 NB241_227;replace HB:=mk0 HB;have hHeld:w25.cell? ⟨gb225,0,none⟩=some (.int .i64 a0_0)∧w25.cell? ⟨gb225,1,none⟩=some (.int .i64 a0_1)∧w25.cell? ⟨gb225,2,none⟩=some (.int .i64 a0_2)∧w25.cell? ⟨gb225,3,none⟩=some (.int .i64 a0_3)∧w25.cell? ⟨gb226,0,none⟩=some (.int .i64 a1_0)∧w25.cell? ⟨gb226,1,none⟩=some (.int .i64 a1_1)∧w25.cell? ⟨gb226,2,none⟩=some (.int .i64 a1_2)∧w25.cell? ⟨gb226,3,none⟩=some (.int .i64 a1_3):=hS_;refine norm_ (a':=?_) ?_ ?_;rotate_left
  ·
   simp only [putAll,Act.put,List.setIfInBounds_toArray,List.set_cons_zero,List.set_cons_succ];rfl
  refine one_ (i:=6) (N:=none) #[true,true,true,true,true,true,true,false] rfl rfl (one_of HT_.out (by kernel_rfl)) (by decide) (fun K hK=>?_);have hs26:w25.cell? ⟨gb240,0,none⟩=some (.int .i64 0):=(blk_cell BK240.out 0).trans rfl;have hfs26:=blk_frozen BK240.out 0;have hns26_0:=NB225_240.out;have hns26_1:=NB226_240.out;have hns26_2:=NB227_240.out;have hns26_4:=NB241_240.out;have hms26_0:=NB240_225.out;have hms26_1:=NB240_226.out;have hms26_2:=NB240_227.out;have hms26_4:=NB240_241.out;have hs27:w25.cell? ⟨gb240,1,none⟩=some (.int .i64 0):=(blk_cell BK240.out 1).trans rfl;have hfs27:=blk_frozen BK240.out 1;have hns27_0:=NB225_240.out;have hns27_1:=NB226_240.out;have hns27_2:=NB227_240.out;have hns27_4:=NB241_240.out;have hms27_0:=NB240_225.out;have hms27_1:=NB240_226.out;have hms27_2:=NB240_227.out;have hms27_4:=NB240_241.out;have hs28:w25.cell? ⟨gb240,2,none⟩=some (.int .i64 0):=(blk_cell BK240.out 2).trans rfl;have hfs28:=blk_frozen BK240.out 2;have hns28_0:=NB225_240.out;have hns28_1:=NB226_240.out;have hns28_2:=NB227_240.out;have hns28_4:=NB241_240.out;have hms28_0:=NB240_225.out;have hms28_1:=NB240_226.out;have hms28_2:=NB240_227.out;have hms28_4:=NB240_241.out;have hs29:w25.cell? ⟨gb240,3,none⟩=some (.int .i64 0):=(blk_cell BK240.out 3).trans rfl;have hfs29:=blk_frozen BK240.out 3;have hns29_0:=NB225_240.out;have hns29_1:=NB226_240.out;have hns29_2:=NB227_240.out;have hns29_4:=NB241_240.out;have hms29_0:=NB240_225.out;have hms29_1:=NB240_226.out;have hms29_2:=NB240_227.out;have hms29_4:=NB240_241.out;refine skip_ (w1:=?_) (by rfl) rfl ?_ ?_;rotate_left
  ·
   go_simp;rfl
  refine hK.out _ _ ⟨((cell_far (p:=⟨gb240,_,none⟩) NB225_240.out _).trans (((cell_far (p:=⟨gb240,_,none⟩) NB225_240.out _).trans (((cell_far (p:=⟨gb240,_,none⟩) NB225_240.out _).trans (((cell_far (p:=⟨gb240,_,none⟩) NB225_240.out _).trans (hHeld.1)))))))),((cell_far (p:=⟨gb240,_,none⟩) NB225_240.out _).trans (((cell_far (p:=⟨gb240,_,none⟩) NB225_240.out _).trans (((cell_far (p:=⟨gb240,_,none⟩) NB225_240.out _).trans (((cell_far (p:=⟨gb240,_,none⟩) NB225_240.out _).trans (hHeld.2.1)))))))),((cell_far (p:=⟨gb240,_,none⟩) NB225_240.out _).trans (((cell_far (p:=⟨gb240,_,none⟩) NB225_240.out _).trans (((cell_far (p:=⟨gb240,_,none⟩) NB225_240.out _).trans (((cell_far (p:=⟨gb240,_,none⟩) NB225_240.out _).trans (hHeld.2.2.1)))))))),((cell_far (p:=⟨gb240,_,none⟩) NB225_240.out _).trans (((cell_far (p:=⟨gb240,_,none⟩) NB225_240.out _).trans (((cell_far (p:=⟨gb240,_,none⟩) NB225_240.out _).trans (((cell_far (p:=⟨gb240,_,none⟩) NB225_240.out _).trans (hHeld.2.2.2.1)))))))),((cell_far (p:=⟨gb240,_,none⟩) NB226_240.out _).trans (((cell_far (p:=⟨gb240,_,none⟩) NB226_240.out _).trans (((cell_far (p:=⟨gb240,_,none⟩) NB226_240.out _).trans (((cell_far (p:=⟨gb240,_,none⟩) NB226_240.out _).trans (hHeld.2.2.2.2.1)))))))),((cell_far (p:=⟨gb240,_,none⟩) NB226_240.out _).trans (((cell_far (p:=⟨gb240,_,none⟩) NB226_240.out _).trans (((cell_far (p:=⟨gb240,_,none⟩) NB226_240.out _).trans (((cell_far (p:=⟨gb240,_,none⟩) NB226_240.out _).trans (hHeld.2.2.2.2.2.1)))))))),((cell_far (p:=⟨gb240,_,none⟩) NB226_240.out _).trans (((cell_far (p:=⟨gb240,_,none⟩) NB226_240.out _).trans (((cell_far (p:=⟨gb240,_,none⟩) NB226_240.out _).trans (((cell_far (p:=⟨gb240,_,none⟩) NB226_240.out _).trans (hHeld.2.2.2.2.2.2.1)))))))),((cell_far (p:=⟨gb240,_,none⟩) NB226_240.out _).trans (((cell_far (p:=⟨gb240,_,none⟩) NB226_240.out _).trans (((cell_far (p:=⟨gb240,_,none⟩) NB226_240.out _).trans (((cell_far (p:=⟨gb240,_,none⟩) NB226_240.out _).trans (hHeld.2.2.2.2.2.2.2))))))))⟩ (fun hHeld=>?_);clear hK K;refine one_ (i:=7) (N:=none) #[true,true,true,true,true,true,true,true] rfl rfl (one_of HT_.out (by kernel_rfl)) (by decide) (fun K hK=>?_);have hs30:w25.cell? ⟨gb241,0,none⟩=some (.int .i64 0):=(blk_cell BK241.out 0).trans rfl;have hfs30:=blk_frozen BK241.out 0;have hns30_0:=NB225_241.out;have hns30_1:=NB226_241.out;have hns30_2:=NB227_241.out;have hns30_3:=NB240_241.out;have hms30_0:=NB241_225.out;have hms30_1:=NB241_226.out;have hms30_2:=NB241_227.out;have hms30_3:=NB241_240.out;have hs31:w25.cell? ⟨gb241,1,none⟩=some (.int .i64 0):=(blk_cell BK241.out 1).trans rfl;have hfs31:=blk_frozen BK241.out 1;have hns31_0:=NB225_241.out;have hns31_1:=NB226_241.out;have hns31_2:=NB227_241.out;have hns31_3:=NB240_241.out;have hms31_0:=NB241_225.out;have hms31_1:=NB241_226.out;have hms31_2:=NB241_227.out;have hms31_3:=NB241_240.out;have hs32:w25.cell? ⟨gb241,2,none⟩=some (.int .i64 0):=(blk_cell BK241.out 2).trans rfl;have hfs32:=blk_frozen BK241.out 2;have hns32_0:=NB225_241.out;have hns32_1:=NB226_241.out;have hns32_2:=NB227_241.out;have hns32_3:=NB240_241.out;have hms32_0:=NB241_225.out;have hms32_1:=NB241_226.out;have hms32_2:=NB241_227.out;have hms32_3:=NB241_240.out;have hs33:w25.cell? ⟨gb241,3,none⟩=some (.int .i64 0):=(blk_cell BK241.out 3).trans rfl;have hfs33:=blk_frozen BK241.out 3;have hns33_0:=NB225_241.out;have hns33_1:=NB226_241.out;have hns33_2:=NB227_241.out;have hns33_3:=NB240_241.out;have hms33_0:=NB241_225.out;have hms33_1:=NB241_226.out;have hms33_2:=NB241_227.out;have hms33_3:=NB241_240.out;refine skip_ (w1:=?_) (by rfl) rfl ?_ ?_;rotate_left
  ·
   go_simp;rfl
  refine hK.out _ _ ⟨((cell_far (p:=⟨gb241,_,none⟩) NB225_241.out _).trans (((cell_far (p:=⟨gb241,_,none⟩) NB225_241.out _).trans (((cell_far (p:=⟨gb241,_,none⟩) NB225_241.out _).trans (((cell_far (p:=⟨gb241,_,none⟩) NB225_241.out _).trans (hHeld.1)))))))),((cell_far (p:=⟨gb241,_,none⟩) NB225_241.out _).trans (((cell_far (p:=⟨gb241,_,none⟩) NB225_241.out _).trans (((cell_far (p:=⟨gb241,_,none⟩) NB225_241.out _).trans (((cell_far (p:=⟨gb241,_,none⟩) NB225_241.out _).trans (hHeld.2.1)))))))),((cell_far (p:=⟨gb241,_,none⟩) NB225_241.out _).trans (((cell_far (p:=⟨gb241,_,none⟩) NB225_241.out _).trans (((cell_far (p:=⟨gb241,_,none⟩) NB225_241.out _).trans (((cell_far (p:=⟨gb241,_,none⟩) NB225_241.out _).trans (hHeld.2.2.1)))))))),((cell_far (p:=⟨gb241,_,none⟩) NB225_241.out _).trans (((cell_far (p:=⟨gb241,_,none⟩) NB225_241.out _).trans (((cell_far (p:=⟨gb241,_,none⟩) NB225_241.out _).trans (((cell_far (p:=⟨gb241,_,none⟩) NB225_241.out _).trans (hHeld.2.2.2.1)))))))),((cell_far (p:=⟨gb241,_,none⟩) NB226_241.out _).trans (((cell_far (p:=⟨gb241,_,none⟩) NB226_241.out _).trans (((cell_far (p:=⟨gb241,_,none⟩) NB226_241.out _).trans (((cell_far (p:=⟨gb241,_,none⟩) NB226_241.out _).trans (hHeld.2.2.2.2.1)))))))),((cell_far (p:=⟨gb241,_,none⟩) NB226_241.out _).trans (((cell_far (p:=⟨gb241,_,none⟩) NB226_241.out _).trans (((cell_far (p:=⟨gb241,_,none⟩) NB226_241.out _).trans (((cell_far (p:=⟨gb241,_,none⟩) NB226_241.out _).trans (hHeld.2.2.2.2.2.1)))))))),((cell_far (p:=⟨gb241,_,none⟩) NB226_241.out _).trans (((cell_far (p:=⟨gb241,_,none⟩) NB226_241.out _).trans (((cell_far (p:=⟨gb241,_,none⟩) NB226_241.out _).trans (((cell_far (p:=⟨gb241,_,none⟩) NB226_241.out _).trans (hHeld.2.2.2.2.2.2.1)))))))),((cell_far (p:=⟨gb241,_,none⟩) NB226_241.out _).trans (((cell_far (p:=⟨gb241,_,none⟩) NB226_241.out _).trans (((cell_far (p:=⟨gb241,_,none⟩) NB226_241.out _).trans (((cell_far (p:=⟨gb241,_,none⟩) NB226_241.out _).trans (hHeld.2.2.2.2.2.2.2))))))))⟩ (fun hHeld=>?_);clear hK K;refine done_ (done_of HT_.out (by kernel_rfl)) ?_;go_upto_region 5 with (fail)
  go_cut [34] (fun v34 wc=>∃ (kq:Nat) (x34_6:Bool),v34=.bool x34_6∧Aside0 (norm_Gcd.j0 kq x34_6 t232 t233 t234 t235 t236 t237 t238 t239=some (r1,r2,r3,r4,r5))∧Aside0 (kq ≤ k)∧Aside0 (wc.heap[gb225]?=some (.cells #[.int .i64 a0_0,.int .i64 a0_1,.int .i64 a0_2,.int .i64 a0_3] 23 (0,0)))∧Aside0 (wc.heap[gb226]?=some (.cells #[.int .i64 a1_0,.int .i64 a1_1,.int .i64 a1_2,.int .i64 a1_3] 23 (0,0)))∧Aside0 (wc.heap[gb227]?=some (.cells #[.int .i64 0,.int .i64 0,.int .i64 0,.int .i64 0] 23 (0,0)))∧Aside0 (wc.heap[gb240]?=some (.cells #[.int .i64 t232,.int .i64 t233,.int .i64 t234,.int .i64 t235] 67 (0,0)))∧Aside0 (wc.heap[gb241]?=some (.cells #[.int .i64 t236,.int .i64 t237,.int .i64 t238,.int .i64 t239] 67 (0,0)))∧Aside0 (Below w.heap.size w wc))
  case first =>
   have H:=HC7.out;clear HC7
   by_cases c34:(t232 == 0 && (t233 == 0 && (t234 == 0 && (t235 == 0))))=true
   ·
    rw [if_pos c34] at H;have c34b0:(t232 == 0 && (t233 == 0 && (t234 == 0 && (t235 == 0))))=true:=c34;(try (have c34b1:decide (t232=0 && (t233 == 0 && (t234 == 0 && (t235 == 0))))=true:=by simpa using c34));(try (have c34b2:(t232 == 0 && (t233 == 0 && (t234 == 0 && (t235 == 0))))=true:=by simpa using c34));clear c34;(first|rw [c34b0]|(simp only [i64_w,i32_w];rw [c34b0])|skip);have H':=mk0 H;clear H;have hnb35:=NB240_225.out;have hnc35:=NB225_240.out;have hnb36:=NB240_226.out;have hnc36:=NB226_240.out;have hnb37:=NB240_227.out;have hnc37:=NB227_240.out;have hnb38:=NB240_241.out;have hnc38:=NB241_240.out;have hcz39_0:w25.cell? ⟨gb240,0,none⟩=some (.int .i64 0):=(blk_cell BK240.out 0).trans rfl;have hcz39_1:w25.cell? ⟨gb240,1,none⟩=some (.int .i64 0):=(blk_cell BK240.out 1).trans rfl;have hcz39_2:w25.cell? ⟨gb240,2,none⟩=some (.int .i64 0):=(blk_cell BK240.out 2).trans rfl;have hcz39_3:w25.cell? ⟨gb240,3,none⟩=some (.int .i64 0):=(blk_cell BK240.out 3).trans rfl;have hfz39_0:=blk_frozen BK240.out 0;have hfz39_1:=blk_frozen BK240.out 1;have hfz39_2:=blk_frozen BK240.out 2;have hfz39_3:=blk_frozen BK240.out 3;have hnb40:=NB241_225.out;have hnc40:=NB225_241.out;have hnb41:=NB241_226.out;have hnc41:=NB226_241.out;have hnb42:=NB241_227.out;have hnc42:=NB227_241.out;have hcz43_0:w25.cell? ⟨gb241,0,none⟩=some (.int .i64 0):=(blk_cell BK241.out 0).trans rfl;have hcz43_1:w25.cell? ⟨gb241,1,none⟩=some (.int .i64 0):=(blk_cell BK241.out 1).trans rfl;have hcz43_2:w25.cell? ⟨gb241,2,none⟩=some (.int .i64 0):=(blk_cell BK241.out 2).trans rfl;have hcz43_3:w25.cell? ⟨gb241,3,none⟩=some (.int .i64 0):=(blk_cell BK241.out 3).trans rfl;have hfz43_0:=blk_frozen BK241.out 0;have hfz43_1:=blk_frozen BK241.out 1;have hfz43_2:=blk_frozen BK241.out 2;have hfz43_3:=blk_frozen BK241.out 3;go_wp2;go_meet
    case rel=>exact ⟨_,((t236 == 0 && (t237 == 0 && (t238 == 0 && (t239 == 0))))),(by first|rfl|(simp;done)|(simp [*];done)),H',⟨by first|omega|exact Nat.le_refl _⟩,⟨by (iterate 4 refine blk_far ?_ NB225_241.out _);(iterate 4 refine blk_far ?_ NB225_240.out _);exact BK225.out⟩,⟨by (iterate 4 refine blk_far ?_ NB226_241.out _);(iterate 4 refine blk_far ?_ NB226_240.out _);exact BK226.out⟩,⟨by (iterate 4 refine blk_far ?_ NB227_241.out _);(iterate 4 refine blk_far ?_ NB227_240.out _);exact BK227.out⟩,⟨by (iterate 4 refine blk_far ?_ NB240_241.out _);refine blk_put (cs:=#[.int .i64 t232,.int .i64 t233,.int .i64 t234,.int .i64 0]) ?_ 3 _ rfl;refine blk_put (cs:=#[.int .i64 t232,.int .i64 t233,.int .i64 0,.int .i64 0]) ?_ 2 _ rfl;refine blk_put (cs:=#[.int .i64 t232,.int .i64 0,.int .i64 0,.int .i64 0]) ?_ 1 _ rfl;refine blk_put (cs:=#[.int .i64 0,.int .i64 0,.int .i64 0,.int .i64 0]) ?_ 0 _ rfl;exact BK240.out⟩,⟨by refine blk_put (cs:=#[.int .i64 t236,.int .i64 t237,.int .i64 t238,.int .i64 0]) ?_ 3 _ rfl;refine blk_put (cs:=#[.int .i64 t236,.int .i64 t237,.int .i64 0,.int .i64 0]) ?_ 2 _ rfl;refine blk_put (cs:=#[.int .i64 t236,.int .i64 0,.int .i64 0,.int .i64 0]) ?_ 1 _ rfl;refine blk_put (cs:=#[.int .i64 0,.int .i64 0,.int .i64 0,.int .i64 0]) ?_ 0 _ rfl;(iterate 4 refine blk_far ?_ NB241_240.out _);exact BK241.out⟩,⟨by repeat (first|(with_reducible first|exact HB.out|apply below_alloc|apply pw_below_drewN|apply below_drew1|refine below_set ?_ GE225.out|refine below_set ?_ GE226.out|refine below_set ?_ GE227.out|refine below_set ?_ GE240.out|refine below_set ?_ GE241.out)|exact HB.out)⟩⟩
   ·
    rw [if_neg c34] at H;have c34b0:(t232 == 0 && (t233 == 0 && (t234 == 0 && (t235 == 0))))=false:=by simpa using c34
    (try (have c34b1:decide (t232=0 && (t233 == 0 && (t234 == 0 && (t235 == 0))))=false:=by simpa using c34));(try (have c34b2:(t232 == 0 && (t233 == 0 && (t234 == 0 && (t235 == 0))))=false:=by simpa using c34));(try (have c34b3:¬ (t232=0 && (t233 == 0 && (t234 == 0 && (t235 == 0)))):=by simpa using c34));clear c34;(first|rw [c34b0]|(simp only [i64_w,i32_w];rw [c34b0])|skip);have H':=mk0 H;clear H;have hnb44:=NB240_225.out;have hnc44:=NB225_240.out;have hnb45:=NB240_226.out;have hnc45:=NB226_240.out;have hnb46:=NB240_227.out;have hnc46:=NB227_240.out;have hnb47:=NB240_241.out;have hnc47:=NB241_240.out;have hcz48_0:w25.cell? ⟨gb240,0,none⟩=some (.int .i64 0):=(blk_cell BK240.out 0).trans rfl;have hcz48_1:w25.cell? ⟨gb240,1,none⟩=some (.int .i64 0):=(blk_cell BK240.out 1).trans rfl;have hcz48_2:w25.cell? ⟨gb240,2,none⟩=some (.int .i64 0):=(blk_cell BK240.out 2).trans rfl;have hcz48_3:w25.cell? ⟨gb240,3,none⟩=some (.int .i64 0):=(blk_cell BK240.out 3).trans rfl;have hfz48_0:=blk_frozen BK240.out 0;have hfz48_1:=blk_frozen BK240.out 1;have hfz48_2:=blk_frozen BK240.out 2;have hfz48_3:=blk_frozen BK240.out 3;go_wp2;go_meet
    case rel=>exact ⟨_,(false),(by first|rfl|(simp;done)|(simp [*];done)),H',⟨by first|omega|exact Nat.le_refl _⟩,⟨by (iterate 4 refine blk_far ?_ NB225_241.out _);(iterate 4 refine blk_far ?_ NB225_240.out _);exact BK225.out⟩,⟨by (iterate 4 refine blk_far ?_ NB226_241.out _);(iterate 4 refine blk_far ?_ NB226_240.out _);exact BK226.out⟩,⟨by (iterate 4 refine blk_far ?_ NB227_241.out _);(iterate 4 refine blk_far ?_ NB227_240.out _);exact BK227.out⟩,⟨by (iterate 4 refine blk_far ?_ NB240_241.out _);refine blk_put (cs:=#[.int .i64 t232,.int .i64 t233,.int .i64 t234,.int .i64 0]) ?_ 3 _ rfl;refine blk_put (cs:=#[.int .i64 t232,.int .i64 t233,.int .i64 0,.int .i64 0]) ?_ 2 _ rfl;refine blk_put (cs:=#[.int .i64 t232,.int .i64 0,.int .i64 0,.int .i64 0]) ?_ 1 _ rfl;refine blk_put (cs:=#[.int .i64 0,.int .i64 0,.int .i64 0,.int .i64 0]) ?_ 0 _ rfl;exact BK240.out⟩,⟨by refine blk_put (cs:=#[.int .i64 t236,.int .i64 t237,.int .i64 t238,.int .i64 0]) ?_ 3 _ rfl;refine blk_put (cs:=#[.int .i64 t236,.int .i64 t237,.int .i64 0,.int .i64 0]) ?_ 2 _ rfl;refine blk_put (cs:=#[.int .i64 t236,.int .i64 0,.int .i64 0,.int .i64 0]) ?_ 1 _ rfl;refine blk_put (cs:=#[.int .i64 0,.int .i64 0,.int .i64 0,.int .i64 0]) ?_ 0 _ rfl;(iterate 4 refine blk_far ?_ NB241_240.out _);exact BK241.out⟩,⟨by repeat (first|(with_reducible first|exact HB.out|apply below_alloc|apply pw_below_drewN|apply below_drew1|refine below_set ?_ GE225.out|refine below_set ?_ GE226.out|refine below_set ?_ GE227.out|refine below_set ?_ GE240.out|refine below_set ?_ GE241.out)|exact HB.out)⟩⟩
  case rest =>
   clear HC7;try clear p2
   try clear c3
   try clear c4
   try clear c34
   try clear c34b0
   try clear c34b1
   try clear c34b2
   try clear c35
   try clear c36
   try clear c37
   try clear c38
   try clear c40
   try clear c41
   try clear c42
   try clear c44
   try clear c45
   try clear c46
   try clear c47
   try clear c48
   try clear hcz39_0
   try clear hcz39_1
   try clear hcz39_2
   try clear hcz39_3
   try clear hcz43_0
   try clear hcz43_1
   try clear hcz43_2
   try clear hcz43_3
   try clear hcz48_0
   try clear hcz48_1
   try clear hcz48_2
   try clear hcz48_3
   try clear hfz39_0
   try clear hfz39_1
   try clear hfz39_2
   try clear hfz39_3
   try clear hfz43_0
   try clear hfz43_1
   try clear hfz43_2
   try clear hfz43_3
   try clear hfz48_0
   try clear hfz48_1
   try clear hfz48_2
   try clear hfz48_3
   obtain ⟨kq,x34_6,rfl,HA,HJ6,BK225,BK226,BK227,BK240,BK241,HB⟩:=hcut;cases kq with
   | zero=>exact absurd HA.out (by simp [norm_Gcd.j0])
   | succ kj6 =>
    have H:=HA.out;clear HA;simp only [norm_Gcd.j0] at H
    by_cases c49:x34_6=true
    ·
     subst c49;have H1:(some (0,0,0,0,5))=some (r1,r2,r3,r4,r5):=by rw [if_pos rfl] at H;exact H
     clear H;have H:=H1;clear H1;simp only [Option.some.injEq,Prod.mk.injEq] at H;obtain ⟨rfl,rfl,rfl,rfl,rfl⟩:=H;have hnb50:=NB227_225.out;have hnc50:=NB225_227.out;have hnb51:=NB227_226.out;have hnc51:=NB226_227.out;have hnb52:=NB227_240.out;have hnc52:=NB240_227.out;have hnb53:=NB227_241.out;have hnc53:=NB241_227.out;have hcz54_0:wc.cell? ⟨gb227,0,none⟩=some (.int .i64 0):=(blk_cell BK227.out 0).trans rfl;have hcz54_1:wc.cell? ⟨gb227,1,none⟩=some (.int .i64 0):=(blk_cell BK227.out 1).trans rfl;have hcz54_2:wc.cell? ⟨gb227,2,none⟩=some (.int .i64 0):=(blk_cell BK227.out 2).trans rfl;have hcz54_3:wc.cell? ⟨gb227,3,none⟩=some (.int .i64 0):=(blk_cell BK227.out 3).trans rfl;have hfz54_0:=blk_frozen BK227.out 0;have hfz54_1:=blk_frozen BK227.out 1;have hfz54_2:=blk_frozen BK227.out 2;have hfz54_3:=blk_frozen BK227.out 3;go_wp2;refine bodyPost_ret (results_ct rfl _ _ gb227 23 #[.int .i64 0,.int .i64 0,.int .i64 0,.int .i64 0] (0,0) _ rfl (by refine blk_put (cs:=#[.int .i64 0,.int .i64 0,.int .i64 0,.int .i64 0]) ?_ 3 _ rfl;refine blk_put (cs:=#[.int .i64 0,.int .i64 0,.int .i64 0,.int .i64 0]) ?_ 2 _ rfl;refine blk_put (cs:=#[.int .i64 0,.int .i64 0,.int .i64 0,.int .i64 0]) ?_ 1 _ rfl;refine blk_put (cs:=#[.int .i64 0,.int .i64 0,.int .i64 0,.int .i64 0]) ?_ 0 _ rfl;exact BK227.out) Try.underlying23 rfl (by kernel_rfl)) rfl ?_;exact ⟨by first|rfl|(simp [errW_none,errW_some] <;> rfl)|(simp [*,errW_none,errW_some] <;> rfl),by repeat (first|(with_reducible first|exact HB.out|apply below_alloc|apply pw_below_drewN|apply below_drew1|refine below_set ?_ GE225.out|refine below_set ?_ GE226.out|refine below_set ?_ GE227.out|refine below_set ?_ GE240.out|refine below_set ?_ GE241.out)|exact HB.out)⟩
    ·
     replace c49:=Bool.eq_false_iff.mpr c49;subst c49;have H1:(norm_Gcd.l0 kj6 t232 t233 t234 t235 t236 t237 t238 t239)=some (r1,r2,r3,r4,r5):=by rw [if_neg (show ¬ (false=true) by decide)] at H;exact H
     clear H;have H:=H1;clear H1;have H':=mk0 H;clear H;go_wp2
     go_loopg [] kj6 (fun kq w'=>∃ (x241000_2:Int) (x241001_2:Int) (x241002_2:Int) (x241003_2:Int) (x242000_2:Int) (x242001_2:Int) (x242002_2:Int) (x242003_2:Int),Aside0 (norm_Gcd.l0 kq x241000_2 x241001_2 x241002_2 x241003_2 x242000_2 x242001_2 x242002_2 x242003_2=some (r1,r2,r3,r4,r5))∧Aside0 (kq ≤ kj6)∧Aside0 (w'.heap[gb225]?=some (.cells #[.int .i64 a0_0,.int .i64 a0_1,.int .i64 a0_2,.int .i64 a0_3] 23 (0,0)))∧Aside0 (w'.heap[gb226]?=some (.cells #[.int .i64 a1_0,.int .i64 a1_1,.int .i64 a1_2,.int .i64 a1_3] 23 (0,0)))∧Aside0 (w'.heap[gb227]?=some (.cells #[.int .i64 0,.int .i64 0,.int .i64 0,.int .i64 0] 23 (0,0)))∧Aside0 (w'.heap[gb240]?=some (.cells #[.int .i64 x241000_2,.int .i64 x241001_2,.int .i64 x241002_2,.int .i64 x241003_2] 67 (0,0)))∧Aside0 (w'.heap[gb241]?=some (.cells #[.int .i64 x242000_2,.int .i64 x242001_2,.int .i64 x242002_2,.int .i64 x242003_2] 67 (0,0)))∧Aside0 (Below w.heap.size w w'))
     case atStart=>exact ⟨(t232),(t233),(t234),(t235),(t236),(t237),(t238),(t239),H',⟨Nat.le_refl _⟩,⟨by exact BK225.out⟩,⟨by exact BK226.out⟩,⟨by exact BK227.out⟩,⟨by exact BK240.out⟩,⟨by exact BK241.out⟩,⟨by repeat (first|(with_reducible first|exact HB.out|apply below_alloc|apply pw_below_drewN|apply below_drew1|refine below_set ?_ GE225.out|refine below_set ?_ GE226.out|refine below_set ?_ GE227.out|refine below_set ?_ GE240.out|refine below_set ?_ GE241.out)|exact HB.out)⟩⟩
     case round =>
      clear H';try clear p2
      try clear c3
      try clear c4
      try clear c5
      try clear c34
      try clear c34b0
      try clear c34b1
      try clear c34b2
      try clear c35
      try clear c36
      try clear c37
      try clear c38
      try clear c40
      try clear c41
      try clear c42
      try clear c44
      try clear c45
      try clear c46
      try clear c47
      try clear c48
      try clear c49
      try clear c50
      try clear c51
      try clear c52
      try clear c53
      try clear hcz39_0
      try clear hcz39_1
      try clear hcz39_2
      try clear hcz39_3
      try clear hcz43_0
      try clear hcz43_1
      try clear hcz43_2
      try clear hcz43_3
      try clear hcz48_0
      try clear hcz48_1
      try clear hcz48_2
      try clear hcz48_3
      try clear hcz54_0
      try clear hcz54_1
      try clear hcz54_2
      try clear hcz54_3
      try clear hfz39_0
      try clear hfz39_1
      try clear hfz39_2
      try clear hfz39_3
      try clear hfz43_0
      try clear hfz43_1
      try clear hfz43_2
      try clear hfz43_3
      try clear hfz48_0
      try clear hfz48_1
      try clear hfz48_2
      try clear hfz48_3
      try clear hfz54_0
      try clear hfz54_1
      try clear hfz54_2
      try clear hfz54_3
      try clear p2
      obtain ⟨x241000_2,x241001_2,x241002_2,x241003_2,x242000_2,x242001_2,x242002_2,x242003_2,HA,HK2,BK225,BK226,BK227,BK240,BK241,HB⟩:=hrel;cases gk with
      | zero=>exact absurd HA.out (by simp [norm_Gcd.l0])
      | succ k2 =>
       have H:=HA.out;clear HA;simp only [norm_Gcd.l0] at H
       by_cases c55:(!(x242000_2 == 0) || (!(x242001_2 == 0) || (!(x242002_2 == 0) || (!(x242003_2 == 0)))))=true
       ·
        rw [if_pos c55] at H;have c55b0:(!(x242000_2 == 0) || (!(x242001_2 == 0) || (!(x242002_2 == 0) || (!(x242003_2 == 0)))))=true:=c55;clear c55;replace H:=Option.bind_eq_some_iff.mp H;obtain ⟨⟨t242,t243,t244,t245,t246,t247,t248,t249⟩,A560,H⟩:=H;(try dsimp only at H);have A56:=mk0 A560;clear A560;have H':=mk0 H;clear H;have hnb57:=NB241_225.out;have hnc57:=NB225_241.out;have hnb58:=NB241_226.out;have hnc58:=NB226_241.out;have hnb59:=NB241_227.out;have hnc59:=NB227_241.out;have hnb60:=NB241_240.out;have hnc60:=NB240_241.out;have hcz61_0:wr.cell? ⟨gb241,0,none⟩=some (.int .i64 x242000_2):=(blk_cell BK241.out 0).trans rfl;have hcz61_1:wr.cell? ⟨gb241,1,none⟩=some (.int .i64 x242001_2):=(blk_cell BK241.out 1).trans rfl;have hcz61_2:wr.cell? ⟨gb241,2,none⟩=some (.int .i64 x242002_2):=(blk_cell BK241.out 2).trans rfl;have hcz61_3:wr.cell? ⟨gb241,3,none⟩=some (.int .i64 x242003_2):=(blk_cell BK241.out 3).trans rfl;have hfz61_0:=blk_frozen BK241.out 0;have hfz61_1:=blk_frozen BK241.out 1;have hfz61_2:=blk_frozen BK241.out 2;have hfz61_3:=blk_frozen BK241.out 3;have hnb62:=NB240_225.out;have hnc62:=NB225_240.out;have hnb63:=NB240_226.out;have hnc63:=NB226_240.out;have hnb64:=NB240_227.out;have hnc64:=NB227_240.out;have hcz65_0:wr.cell? ⟨gb240,0,none⟩=some (.int .i64 x241000_2):=(blk_cell BK240.out 0).trans rfl;have hcz65_1:wr.cell? ⟨gb240,1,none⟩=some (.int .i64 x241001_2):=(blk_cell BK240.out 1).trans rfl;have hcz65_2:wr.cell? ⟨gb240,2,none⟩=some (.int .i64 x241002_2):=(blk_cell BK240.out 2).trans rfl;have hcz65_3:wr.cell? ⟨gb240,3,none⟩=some (.int .i64 x241003_2):=(blk_cell BK240.out 3).trans rfl;have hfz65_0:=blk_frozen BK240.out 0;have hfz65_1:=blk_frozen BK240.out 1;have hfz65_2:=blk_frozen BK240.out 2;have hfz65_3:=blk_frozen BK240.out 3;try go_wp2_with (first|((with_reducible refine gate_callee (f:=49) rfl ?_);refine goesL_ (some 42) rfl rfl Try.func49 (by kernel_rfl) rfl #[.agg #[.int .i64 x241000_2,.int .i64 x241001_2,.int .i64 x241002_2,.int .i64 x241003_2],.agg #[.int .i64 x242000_2,.int .i64 x242001_2,.int .i64 x242002_2,.int .i64 x242003_2]] rfl (by (try simp only [List.map_toArray,List.map_cons,List.map_nil]);first|done|rfl|(simp only [List.length_drop,List.length_take];rfl)) ?_;(with_reducible refine (norm_divide.calls k2 x241000_2 x241001_2 x241002_2 x241003_2 x242000_2 x242001_2 x242002_2 x242003_2 t242 t243 t244 t245 t246 t247 t248 t249 _ A56.out).mono ?_);rintro e w66 ⟨rfl,hb⟩;refine ⟨_,rfl,?_⟩;replace BK225:=bkb BK225 hb;replace BK226:=bkb BK226 hb;replace BK227:=bkb BK227 hb;replace BK240:=bkb BK240 hb;replace BK241:=bkb BK241 hb;replace HB:=bst HB hb;(try clear hb))|((with_reducible refine gate_dst (N:=9) rfl ?_);refine box_event ?hg (N:=9) ?hd (cs:=#[.int .i64 0,.int .i64 0,.int .i64 0,.int .i64 0]) (t:=67) ?hr ?_;(case hd=>rfl);(case hg=>rfl);(case hr=>first|(go_simp;done)|(go_simp;rfl));intro gb250 hg w67 hbox hb;have BK250:=mk0 (hbox);have GW250:=szw hg HB;have GE250:=GW250;have NB225_250:=nlt hg BK225;have NB250_225:=ngt hg BK225;have NB226_250:=nlt hg BK226;have NB250_226:=ngt hg BK226;have NB227_250:=nlt hg BK227;have NB250_227:=ngt hg BK227;have NB240_250:=nlt hg BK240;have NB250_240:=ngt hg BK240;have NB241_250:=nlt hg BK241;have NB250_241:=ngt hg BK241;replace BK225:=bkb BK225 hb;replace BK226:=bkb BK226 hb;replace BK227:=bkb BK227 hb;replace BK240:=bkb BK240 hb;replace BK241:=bkb BK241 hb;replace HB:=bst HB hb;clear hb hbox hg)|((with_reducible refine gate_dst (N:=10) rfl ?_);refine box_event ?hg (N:=10) ?hd (cs:=#[.int .i64 0,.int .i64 0,.int .i64 0,.int .i64 0]) (t:=67) ?hr ?_;(case hd=>rfl);(case hg=>rfl);(case hr=>first|(go_simp;done)|(go_simp;rfl));intro gb251 hg w68 hbox hb;have BK251:=mk0 (hbox);have GW251:=szw hg HB;have GE251:=GW251;have NB225_251:=nlt hg BK225;have NB251_225:=ngt hg BK225;have NB226_251:=nlt hg BK226;have NB251_226:=ngt hg BK226;have NB227_251:=nlt hg BK227;have NB251_227:=ngt hg BK227;have NB240_251:=nlt hg BK240;have NB251_240:=ngt hg BK240;have NB241_251:=nlt hg BK241;have NB251_241:=ngt hg BK241;have NB250_251:=nlt hg BK250;have NB251_250:=ngt hg BK250;replace BK225:=bkb BK225 hb;replace BK226:=bkb BK226 hb;replace BK227:=bkb BK227 hb;replace BK240:=bkb BK240 hb;replace BK241:=bkb BK241 hb;replace BK250:=bkb BK250 hb;replace HB:=bst HB hb;clear hb hbox hg;have hnb69:=NB250_225.out;have hnc69:=NB225_250.out;have hnb70:=NB250_226.out;have hnc70:=NB226_250.out;have hnb71:=NB250_227.out;have hnc71:=NB227_250.out;have hnb72:=NB250_240.out;have hnc72:=NB240_250.out;have hnb73:=NB250_241.out;have hnc73:=NB241_250.out;have hnb74:=NB250_251.out;have hnc74:=NB251_250.out;have hcz75_0:w68.cell? ⟨gb250,0,none⟩=some (.int .i64 0):=(blk_cell BK250.out 0).trans rfl;have hcz75_1:w68.cell? ⟨gb250,1,none⟩=some (.int .i64 0):=(blk_cell BK250.out 1).trans rfl;have hcz75_2:w68.cell? ⟨gb250,2,none⟩=some (.int .i64 0):=(blk_cell BK250.out 2).trans rfl;have hcz75_3:w68.cell? ⟨gb250,3,none⟩=some (.int .i64 0):=(blk_cell BK250.out 3).trans rfl;have hfz75_0:=blk_frozen BK250.out 0;have hfz75_1:=blk_frozen BK250.out 1;have hfz75_2:=blk_frozen BK250.out 2;have hfz75_3:=blk_frozen BK250.out 3;have hnb76:=NB251_225.out;have hnc76:=NB225_251.out;have hnb77:=NB251_226.out;have hnc77:=NB226_251.out;have hnb78:=NB251_227.out;have hnc78:=NB227_251.out;have hnb79:=NB251_240.out;have hnc79:=NB240_251.out;have hnb80:=NB251_241.out;have hnc80:=NB241_251.out;have hcz81_0:w68.cell? ⟨gb251,0,none⟩=some (.int .i64 0):=(blk_cell BK251.out 0).trans rfl;have hcz81_1:w68.cell? ⟨gb251,1,none⟩=some (.int .i64 0):=(blk_cell BK251.out 1).trans rfl;have hcz81_2:w68.cell? ⟨gb251,2,none⟩=some (.int .i64 0):=(blk_cell BK251.out 2).trans rfl;have hcz81_3:w68.cell? ⟨gb251,3,none⟩=some (.int .i64 0):=(blk_cell BK251.out 3).trans rfl;have hfz81_0:=blk_frozen BK251.out 0;have hfz81_1:=blk_frozen BK251.out 1;have hfz81_2:=blk_frozen BK251.out 2;have hfz81_3:=blk_frozen BK251.out 3))
        have n0_:Aside0 (((((((((w68.setCell ⟨gb250,0,none⟩ (.int .i64 t242)).setCell ⟨gb250,1,none⟩ (.int .i64 t243)).setCell ⟨gb250,2,none⟩ (.int .i64 t244)).setCell ⟨gb250,3,none⟩ (.int .i64 t245)).setCell ⟨gb251,0,none⟩ (.int .i64 t246)).setCell ⟨gb251,1,none⟩ (.int .i64 t247)).setCell ⟨gb251,2,none⟩ (.int .i64 t248)).setCell ⟨gb251,3,none⟩ (.int .i64 t249)).heap[gb225]?=some (.cells #[.int .i64 a0_0,.int .i64 a0_1,.int .i64 a0_2,.int .i64 a0_3] 23 (0,0))):=⟨by (iterate 4 refine blk_far ?_ NB225_251.out _);(iterate 4 refine blk_far ?_ NB225_250.out _);exact BK225.out⟩
        have n1_:Aside0 (((((((((w68.setCell ⟨gb250,0,none⟩ (.int .i64 t242)).setCell ⟨gb250,1,none⟩ (.int .i64 t243)).setCell ⟨gb250,2,none⟩ (.int .i64 t244)).setCell ⟨gb250,3,none⟩ (.int .i64 t245)).setCell ⟨gb251,0,none⟩ (.int .i64 t246)).setCell ⟨gb251,1,none⟩ (.int .i64 t247)).setCell ⟨gb251,2,none⟩ (.int .i64 t248)).setCell ⟨gb251,3,none⟩ (.int .i64 t249)).heap[gb226]?=some (.cells #[.int .i64 a1_0,.int .i64 a1_1,.int .i64 a1_2,.int .i64 a1_3] 23 (0,0))):=⟨by (iterate 4 refine blk_far ?_ NB226_251.out _);(iterate 4 refine blk_far ?_ NB226_250.out _);exact BK226.out⟩
        have n2_:Aside0 (((((((((w68.setCell ⟨gb250,0,none⟩ (.int .i64 t242)).setCell ⟨gb250,1,none⟩ (.int .i64 t243)).setCell ⟨gb250,2,none⟩ (.int .i64 t244)).setCell ⟨gb250,3,none⟩ (.int .i64 t245)).setCell ⟨gb251,0,none⟩ (.int .i64 t246)).setCell ⟨gb251,1,none⟩ (.int .i64 t247)).setCell ⟨gb251,2,none⟩ (.int .i64 t248)).setCell ⟨gb251,3,none⟩ (.int .i64 t249)).heap[gb227]?=some (.cells #[.int .i64 0,.int .i64 0,.int .i64 0,.int .i64 0] 23 (0,0))):=⟨by (iterate 4 refine blk_far ?_ NB227_251.out _);(iterate 4 refine blk_far ?_ NB227_250.out _);exact BK227.out⟩
        have n3_:Aside0 (((((((((w68.setCell ⟨gb250,0,none⟩ (.int .i64 t242)).setCell ⟨gb250,1,none⟩ (.int .i64 t243)).setCell ⟨gb250,2,none⟩ (.int .i64 t244)).setCell ⟨gb250,3,none⟩ (.int .i64 t245)).setCell ⟨gb251,0,none⟩ (.int .i64 t246)).setCell ⟨gb251,1,none⟩ (.int .i64 t247)).setCell ⟨gb251,2,none⟩ (.int .i64 t248)).setCell ⟨gb251,3,none⟩ (.int .i64 t249)).heap[gb240]?=some (.cells #[.int .i64 x241000_2,.int .i64 x241001_2,.int .i64 x241002_2,.int .i64 x241003_2] 67 (0,0))):=⟨by (iterate 4 refine blk_far ?_ NB240_251.out _);(iterate 4 refine blk_far ?_ NB240_250.out _);exact BK240.out⟩
        have n4_:Aside0 (((((((((w68.setCell ⟨gb250,0,none⟩ (.int .i64 t242)).setCell ⟨gb250,1,none⟩ (.int .i64 t243)).setCell ⟨gb250,2,none⟩ (.int .i64 t244)).setCell ⟨gb250,3,none⟩ (.int .i64 t245)).setCell ⟨gb251,0,none⟩ (.int .i64 t246)).setCell ⟨gb251,1,none⟩ (.int .i64 t247)).setCell ⟨gb251,2,none⟩ (.int .i64 t248)).setCell ⟨gb251,3,none⟩ (.int .i64 t249)).heap[gb241]?=some (.cells #[.int .i64 x242000_2,.int .i64 x242001_2,.int .i64 x242002_2,.int .i64 x242003_2] 67 (0,0))):=⟨by (iterate 4 refine blk_far ?_ NB241_251.out _);(iterate 4 refine blk_far ?_ NB241_250.out _);exact BK241.out⟩
        have n5_:Aside0 (((((((((w68.setCell ⟨gb250,0,none⟩ (.int .i64 t242)).setCell ⟨gb250,1,none⟩ (.int .i64 t243)).setCell ⟨gb250,2,none⟩ (.int .i64 t244)).setCell ⟨gb250,3,none⟩ (.int .i64 t245)).setCell ⟨gb251,0,none⟩ (.int .i64 t246)).setCell ⟨gb251,1,none⟩ (.int .i64 t247)).setCell ⟨gb251,2,none⟩ (.int .i64 t248)).setCell ⟨gb251,3,none⟩ (.int .i64 t249)).heap[gb250]?=some (.cells #[.int .i64 t242,.int .i64 t243,.int .i64 t244,.int .i64 t245] 67 (0,0))):=⟨by (iterate 4 refine blk_far ?_ NB250_251.out _);refine blk_put (cs:=#[.int .i64 t242,.int .i64 t243,.int .i64 t244,.int .i64 0]) ?_ 3 _ rfl;refine blk_put (cs:=#[.int .i64 t242,.int .i64 t243,.int .i64 0,.int .i64 0]) ?_ 2 _ rfl;refine blk_put (cs:=#[.int .i64 t242,.int .i64 0,.int .i64 0,.int .i64 0]) ?_ 1 _ rfl;refine blk_put (cs:=#[.int .i64 0,.int .i64 0,.int .i64 0,.int .i64 0]) ?_ 0 _ rfl;exact BK250.out⟩
        have n6_:Aside0 (((((((((w68.setCell ⟨gb250,0,none⟩ (.int .i64 t242)).setCell ⟨gb250,1,none⟩ (.int .i64 t243)).setCell ⟨gb250,2,none⟩ (.int .i64 t244)).setCell ⟨gb250,3,none⟩ (.int .i64 t245)).setCell ⟨gb251,0,none⟩ (.int .i64 t246)).setCell ⟨gb251,1,none⟩ (.int .i64 t247)).setCell ⟨gb251,2,none⟩ (.int .i64 t248)).setCell ⟨gb251,3,none⟩ (.int .i64 t249)).heap[gb251]?=some (.cells #[.int .i64 t246,.int .i64 t247,.int .i64 t248,.int .i64 t249] 67 (0,0))):=⟨by refine blk_put (cs:=#[.int .i64 t246,.int .i64 t247,.int .i64 t248,.int .i64 0]) ?_ 3 _ rfl;refine blk_put (cs:=#[.int .i64 t246,.int .i64 t247,.int .i64 0,.int .i64 0]) ?_ 2 _ rfl;refine blk_put (cs:=#[.int .i64 t246,.int .i64 0,.int .i64 0,.int .i64 0]) ?_ 1 _ rfl;refine blk_put (cs:=#[.int .i64 0,.int .i64 0,.int .i64 0,.int .i64 0]) ?_ 0 _ rfl;(iterate 4 refine blk_far ?_ NB251_250.out _);exact BK251.out⟩
        have n7_:Aside0 (Below w.heap.size w ((((((((w68.setCell ⟨gb250,0,none⟩ (.int .i64 t242)).setCell ⟨gb250,1,none⟩ (.int .i64 t243)).setCell ⟨gb250,2,none⟩ (.int .i64 t244)).setCell ⟨gb250,3,none⟩ (.int .i64 t245)).setCell ⟨gb251,0,none⟩ (.int .i64 t246)).setCell ⟨gb251,1,none⟩ (.int .i64 t247)).setCell ⟨gb251,2,none⟩ (.int .i64 t248)).setCell ⟨gb251,3,none⟩ (.int .i64 t249))):=⟨by repeat (first|(with_reducible first|exact HB.out|apply below_alloc|apply pw_below_drewN|apply below_drew1|refine below_set ?_ GE225.out|refine below_set ?_ GE226.out|refine below_set ?_ GE227.out|refine below_set ?_ GE240.out|refine below_set ?_ GE241.out|refine below_set ?_ GE250.out|refine below_set ?_ GE251.out)|exact HB.out)⟩
        (try clear BK225);(try clear BK226);(try clear BK227);(try clear BK240);(try clear BK241);(try clear BK250);(try clear BK251);(try clear HB);generalize ((((((((w68.setCell ⟨gb250,0,none⟩ (.int .i64 t242)).setCell ⟨gb250,1,none⟩ (.int .i64 t243)).setCell ⟨gb250,2,none⟩ (.int .i64 t244)).setCell ⟨gb250,3,none⟩ (.int .i64 t245)).setCell ⟨gb251,0,none⟩ (.int .i64 t246)).setCell ⟨gb251,1,none⟩ (.int .i64 t247)).setCell ⟨gb251,2,none⟩ (.int .i64 t248)).setCell ⟨gb251,3,none⟩ (.int .i64 t249))=w82 at n0_ n1_ n2_ n3_ n4_ n5_ n6_ n7_ ⊢;have BK225:=n0_;have BK226:=n1_;have BK227:=n2_;have BK240:=n3_;have BK241:=n4_;have BK250:=n5_;have BK251:=n6_;have HB:=n7_;clear n0_ n1_ n2_ n3_ n4_ n5_ n6_ n7_;replace BK225:=bdr BK225;replace BK226:=bdr BK226;replace BK227:=bdr BK227;replace BK240:=bdr BK240;replace BK241:=bdr BK241;replace BK250:=bdr BK250;replace BK251:=bdr BK251;replace HB:=hdr HB;refine start_ (n:=4) (S:=fun w'=>w'.cell? ⟨gb241,0,none⟩=some (.int .i64 x242000_2)∧w'.cell? ⟨gb241,1,none⟩=some (.int .i64 x242001_2)∧w'.cell? ⟨gb241,2,none⟩=some (.int .i64 x242002_2)∧w'.cell? ⟨gb241,3,none⟩=some (.int .i64 x242003_2)∧w'.cell? ⟨gb251,0,none⟩=some (.int .i64 t246)∧w'.cell? ⟨gb251,1,none⟩=some (.int .i64 t247)∧w'.cell? ⟨gb251,2,none⟩=some (.int .i64 t248)∧w'.cell? ⟨gb251,3,none⟩=some (.int .i64 t249)) (ds:=[3]) #[false,false,false,false] (by kernel_rfl) rfl rfl ⟨(blk_cell BK241.out 0).trans rfl,(blk_cell BK241.out 1).trans rfl,(blk_cell BK241.out 2).trans rfl,(blk_cell BK241.out 3).trans rfl,(blk_cell BK251.out 0).trans rfl,(blk_cell BK251.out 1).trans rfl,(blk_cell BK251.out 2).trans rfl,(blk_cell BK251.out 3).trans rfl⟩ (fun hHeld=>?_);generalize w82.drew=w83 at BK225 BK226 BK227 BK240 BK241 BK250 BK251 HB hHeld ⊢;refine take_ (i:=0) (N:=some 45) (v:=?_) (a':=?_) #[true,false,false,false] rfl rfl (by kernel_rfl) (fun _ _ _ h=>h) (Or.inl ⟨by rfl,?_⟩) hHeld ?_ ?_;rotate_left
        ·
         rintro w' ⟨s0,s1,s2,s3,s4,s5,s6,s7⟩;go_simp;with_reducible rfl
        rotate_left
        ·
         simp only [Act.put,List.setIfInBounds_toArray,List.set_cons_zero,List.set_cons_succ,i64_w,i32_w];rfl
        refine take_ (i:=1) (N:=some 46) (v:=?_) (a':=?_) #[true,true,false,false] rfl rfl (by kernel_rfl) (fun _ _ _ h=>h) (Or.inl ⟨by rfl,?_⟩) hHeld ?_ ?_;rotate_left
        ·
         rintro w' ⟨s0,s1,s2,s3,s4,s5,s6,s7⟩;go_simp;with_reducible rfl
        rotate_left
        ·
         simp only [Act.put,List.setIfInBounds_toArray,List.set_cons_zero,List.set_cons_succ,i64_w,i32_w];rfl
        refine one_ (i:=2) (N:=none) #[true,true,true,false] rfl rfl (by kernel_rfl) (by decide) (fun K hK=>?_);have hs84:w83.cell? ⟨gb240,0,none⟩=some (.int .i64 x241000_2):=(blk_cell BK240.out 0).trans rfl;have hfs84:=blk_frozen BK240.out 0;have hns84_0:=NB225_240.out;have hns84_1:=NB226_240.out;have hns84_2:=NB227_240.out;have hns84_4:=NB241_240.out;have hns84_5:=NB250_240.out;have hns84_6:=NB251_240.out;have hms84_0:=NB240_225.out;have hms84_1:=NB240_226.out;have hms84_2:=NB240_227.out;have hms84_4:=NB240_241.out;have hms84_5:=NB240_250.out;have hms84_6:=NB240_251.out;have hs85:w83.cell? ⟨gb240,1,none⟩=some (.int .i64 x241001_2):=(blk_cell BK240.out 1).trans rfl;have hfs85:=blk_frozen BK240.out 1;have hns85_0:=NB225_240.out;have hns85_1:=NB226_240.out;have hns85_2:=NB227_240.out;have hns85_4:=NB241_240.out;have hns85_5:=NB250_240.out;have hns85_6:=NB251_240.out;have hms85_0:=NB240_225.out;have hms85_1:=NB240_226.out;have hms85_2:=NB240_227.out;have hms85_4:=NB240_241.out;have hms85_5:=NB240_250.out;have hms85_6:=NB240_251.out;have hs86:w83.cell? ⟨gb240,2,none⟩=some (.int .i64 x241002_2):=(blk_cell BK240.out 2).trans rfl;have hfs86:=blk_frozen BK240.out 2;have hns86_0:=NB225_240.out;have hns86_1:=NB226_240.out;have hns86_2:=NB227_240.out;have hns86_4:=NB241_240.out;have hns86_5:=NB250_240.out;have hns86_6:=NB251_240.out;have hms86_0:=NB240_225.out;have hms86_1:=NB240_226.out;have hms86_2:=NB240_227.out;have hms86_4:=NB240_241.out;have hms86_5:=NB240_250.out;have hms86_6:=NB240_251.out;have hs87:w83.cell? ⟨gb240,3,none⟩=some (.int .i64 x241003_2):=(blk_cell BK240.out 3).trans rfl;have hfs87:=blk_frozen BK240.out 3;have hns87_0:=NB225_240.out;have hns87_1:=NB226_240.out;have hns87_2:=NB227_240.out;have hns87_4:=NB241_240.out;have hns87_5:=NB250_240.out;have hns87_6:=NB251_240.out;have hms87_0:=NB240_225.out;have hms87_1:=NB240_226.out;have hms87_2:=NB240_227.out;have hms87_4:=NB240_241.out;have hms87_5:=NB240_250.out;have hms87_6:=NB240_251.out;refine skip_ (w1:=?_) (by rfl) rfl ?_ ?_;rotate_left
        ·
         go_simp;rfl
        refine hK.out _ _ ⟨((cell_far (p:=⟨gb240,_,none⟩) NB241_240.out _).trans (((cell_far (p:=⟨gb240,_,none⟩) NB241_240.out _).trans (((cell_far (p:=⟨gb240,_,none⟩) NB241_240.out _).trans (((cell_far (p:=⟨gb240,_,none⟩) NB241_240.out _).trans (hHeld.1)))))))),((cell_far (p:=⟨gb240,_,none⟩) NB241_240.out _).trans (((cell_far (p:=⟨gb240,_,none⟩) NB241_240.out _).trans (((cell_far (p:=⟨gb240,_,none⟩) NB241_240.out _).trans (((cell_far (p:=⟨gb240,_,none⟩) NB241_240.out _).trans (hHeld.2.1)))))))),((cell_far (p:=⟨gb240,_,none⟩) NB241_240.out _).trans (((cell_far (p:=⟨gb240,_,none⟩) NB241_240.out _).trans (((cell_far (p:=⟨gb240,_,none⟩) NB241_240.out _).trans (((cell_far (p:=⟨gb240,_,none⟩) NB241_240.out _).trans (hHeld.2.2.1)))))))),((cell_far (p:=⟨gb240,_,none⟩) NB241_240.out _).trans (((cell_far (p:=⟨gb240,_,none⟩) NB241_240.out _).trans (((cell_far (p:=⟨gb240,_,none⟩) NB241_240.out _).trans (((cell_far (p:=⟨gb240,_,none⟩) NB241_240.out _).trans (hHeld.2.2.2.1)))))))),((cell_far (p:=⟨gb240,_,none⟩) NB251_240.out _).trans (((cell_far (p:=⟨gb240,_,none⟩) NB251_240.out _).trans (((cell_far (p:=⟨gb240,_,none⟩) NB251_240.out _).trans (((cell_far (p:=⟨gb240,_,none⟩) NB251_240.out _).trans (hHeld.2.2.2.2.1)))))))),((cell_far (p:=⟨gb240,_,none⟩) NB251_240.out _).trans (((cell_far (p:=⟨gb240,_,none⟩) NB251_240.out _).trans (((cell_far (p:=⟨gb240,_,none⟩) NB251_240.out _).trans (((cell_far (p:=⟨gb240,_,none⟩) NB251_240.out _).trans (hHeld.2.2.2.2.2.1)))))))),((cell_far (p:=⟨gb240,_,none⟩) NB251_240.out _).trans (((cell_far (p:=⟨gb240,_,none⟩) NB251_240.out _).trans (((cell_far (p:=⟨gb240,_,none⟩) NB251_240.out _).trans (((cell_far (p:=⟨gb240,_,none⟩) NB251_240.out _).trans (hHeld.2.2.2.2.2.2.1)))))))),((cell_far (p:=⟨gb240,_,none⟩) NB251_240.out _).trans (((cell_far (p:=⟨gb240,_,none⟩) NB251_240.out _).trans (((cell_far (p:=⟨gb240,_,none⟩) NB251_240.out _).trans (((cell_far (p:=⟨gb240,_,none⟩) NB251_240.out _).trans (hHeld.2.2.2.2.2.2.2))))))))⟩ (fun hHeld=>?_);clear hK K;refine last_ (i:=3) (N:=none) #[true,true,true,true] rfl rfl (by kernel_rfl) (by decide) (fun K hK=>?_);have hs88:w83.cell? ⟨gb241,0,none⟩=some (.int .i64 x242000_2):=(blk_cell BK241.out 0).trans rfl;have hfs88:=blk_frozen BK241.out 0;have hns88_0:=NB225_241.out;have hns88_1:=NB226_241.out;have hns88_2:=NB227_241.out;have hns88_3:=NB240_241.out;have hns88_5:=NB250_241.out;have hns88_6:=NB251_241.out;have hms88_0:=NB241_225.out;have hms88_1:=NB241_226.out;have hms88_2:=NB241_227.out;have hms88_3:=NB241_240.out;have hms88_5:=NB241_250.out;have hms88_6:=NB241_251.out;have hs89:w83.cell? ⟨gb241,1,none⟩=some (.int .i64 x242001_2):=(blk_cell BK241.out 1).trans rfl;have hfs89:=blk_frozen BK241.out 1;have hns89_0:=NB225_241.out;have hns89_1:=NB226_241.out;have hns89_2:=NB227_241.out;have hns89_3:=NB240_241.out;have hns89_5:=NB250_241.out;have hns89_6:=NB251_241.out;have hms89_0:=NB241_225.out;have hms89_1:=NB241_226.out;have hms89_2:=NB241_227.out;have hms89_3:=NB241_240.out;have hms89_5:=NB241_250.out;have hms89_6:=NB241_251.out;have hs90:w83.cell? ⟨gb241,2,none⟩=some (.int .i64 x242002_2):=(blk_cell BK241.out 2).trans rfl;have hfs90:=blk_frozen BK241.out 2;have hns90_0:=NB225_241.out;have hns90_1:=NB226_241.out;have hns90_2:=NB227_241.out;have hns90_3:=NB240_241.out;have hns90_5:=NB250_241.out;have hns90_6:=NB251_241.out;have hms90_0:=NB241_225.out;have hms90_1:=NB241_226.out;have hms90_2:=NB241_227.out;have hms90_3:=NB241_240.out;have hms90_5:=NB241_250.out;have hms90_6:=NB241_251.out;have hs91:w83.cell? ⟨gb241,3,none⟩=some (.int .i64 x242003_2):=(blk_cell BK241.out 3).trans rfl;have hfs91:=blk_frozen BK241.out 3;have hns91_0:=NB225_241.out;have hns91_1:=NB226_241.out;have hns91_2:=NB227_241.out
        have hns91_3:=NB240_241.out;have hns91_5:=NB250_241.out;have hns91_6:=NB251_241.out;have hms91_0:=NB241_225.out;have hms91_1:=NB241_226.out;have hms91_2:=NB241_227.out;have hms91_3:=NB241_240.out;have hms91_5:=NB241_250.out;have hms91_6:=NB241_251.out;refine skip_ (w1:=?_) (by rfl) rfl ?_ ?_;rotate_left
        ·
         go_simp;rfl
        refine hK.out _ _ ?_;clear hK K;refine done_ (by kernel_rfl) ?_;try go_wp2
        go_roundg k2
        case measure=>have:=HJ6.out;have:=HK2.out;omega
        case rel=>exact ⟨(x242000_2),(x242001_2),(x242002_2),(x242003_2),(t246),(t247),(t248),(t249),H',⟨by have:=HJ6.out;have:=HK2.out;omega⟩,⟨by (iterate 4 refine blk_far ?_ NB225_241.out _);(iterate 4 refine blk_far ?_ NB225_240.out _);exact BK225.out⟩,⟨by (iterate 4 refine blk_far ?_ NB226_241.out _);(iterate 4 refine blk_far ?_ NB226_240.out _);exact BK226.out⟩,⟨by (iterate 4 refine blk_far ?_ NB227_241.out _);(iterate 4 refine blk_far ?_ NB227_240.out _);exact BK227.out⟩,⟨by (iterate 4 refine blk_far ?_ NB240_241.out _);refine blk_put (cs:=#[.int .i64 x242000_2,.int .i64 x242001_2,.int .i64 x242002_2,.int .i64 x241003_2]) ?_ 3 _ rfl;refine blk_put (cs:=#[.int .i64 x242000_2,.int .i64 x242001_2,.int .i64 x241002_2,.int .i64 x241003_2]) ?_ 2 _ rfl;refine blk_put (cs:=#[.int .i64 x242000_2,.int .i64 x241001_2,.int .i64 x241002_2,.int .i64 x241003_2]) ?_ 1 _ rfl;refine blk_put (cs:=#[.int .i64 x241000_2,.int .i64 x241001_2,.int .i64 x241002_2,.int .i64 x241003_2]) ?_ 0 _ rfl;exact BK240.out⟩,⟨by refine blk_put (cs:=#[.int .i64 t246,.int .i64 t247,.int .i64 t248,.int .i64 x242003_2]) ?_ 3 _ rfl;refine blk_put (cs:=#[.int .i64 t246,.int .i64 t247,.int .i64 x242002_2,.int .i64 x242003_2]) ?_ 2 _ rfl;refine blk_put (cs:=#[.int .i64 t246,.int .i64 x242001_2,.int .i64 x242002_2,.int .i64 x242003_2]) ?_ 1 _ rfl;refine blk_put (cs:=#[.int .i64 x242000_2,.int .i64 x242001_2,.int .i64 x242002_2,.int .i64 x242003_2]) ?_ 0 _ rfl;(iterate 4 refine blk_far ?_ NB241_240.out _);exact BK241.out⟩,⟨by repeat (first|(with_reducible first|exact HB.out|apply below_alloc|apply pw_below_drewN|apply below_drew1|refine below_set ?_ GE225.out|refine below_set ?_ GE226.out|refine below_set ?_ GE227.out|refine below_set ?_ GE240.out|refine below_set ?_ GE241.out|refine below_set ?_ GE250.out|refine below_set ?_ GE251.out)|exact HB.out)⟩⟩
       ·
        rw [if_neg c55] at H;have c55b0:(!(x242000_2 == 0) || (!(x242001_2 == 0) || (!(x242002_2 == 0) || (!(x242003_2 == 0)))))=false:=by simpa using c55
        clear c55;replace H:=Option.bind_eq_some_iff.mp H;obtain ⟨t253,A920,H⟩:=H;(try dsimp only at H);have A92:=mk0 A920;clear A920;have H':=mk0 H;clear H;have hnb93:=NB241_225.out;have hnc93:=NB225_241.out;have hnb94:=NB241_226.out;have hnc94:=NB226_241.out;have hnb95:=NB241_227.out;have hnc95:=NB227_241.out;have hnb96:=NB241_240.out;have hnc96:=NB240_241.out;have hcz97_0:wr.cell? ⟨gb241,0,none⟩=some (.int .i64 x242000_2):=(blk_cell BK241.out 0).trans rfl;have hcz97_1:wr.cell? ⟨gb241,1,none⟩=some (.int .i64 x242001_2):=(blk_cell BK241.out 1).trans rfl;have hcz97_2:wr.cell? ⟨gb241,2,none⟩=some (.int .i64 x242002_2):=(blk_cell BK241.out 2).trans rfl;have hcz97_3:wr.cell? ⟨gb241,3,none⟩=some (.int .i64 x242003_2):=(blk_cell BK241.out 3).trans rfl;have hfz97_0:=blk_frozen BK241.out 0;have hfz97_1:=blk_frozen BK241.out 1;have hfz97_2:=blk_frozen BK241.out 2;have hfz97_3:=blk_frozen BK241.out 3;have hnb98:=NB240_225.out;have hnc98:=NB225_240.out;have hnb99:=NB240_226.out;have hnc99:=NB226_240.out;have hnb100:=NB240_227.out;have hnc100:=NB227_240.out;have hcz101_0:wr.cell? ⟨gb240,0,none⟩=some (.int .i64 x241000_2):=(blk_cell BK240.out 0).trans rfl;have hcz101_1:wr.cell? ⟨gb240,1,none⟩=some (.int .i64 x241001_2):=(blk_cell BK240.out 1).trans rfl;have hcz101_2:wr.cell? ⟨gb240,2,none⟩=some (.int .i64 x241002_2):=(blk_cell BK240.out 2).trans rfl;have hcz101_3:wr.cell? ⟨gb240,3,none⟩=some (.int .i64 x241003_2):=(blk_cell BK240.out 3).trans rfl;have hfz101_0:=blk_frozen BK240.out 0;have hfz101_1:=blk_frozen BK240.out 1;have hfz101_2:=blk_frozen BK240.out 2;have hfz101_3:=blk_frozen BK240.out 3;go_wp2_with (first|((with_reducible refine gate_dst (N:=11) rfl ?_);refine box_event ?hg (N:=11) ?hd (cs:=#[.int .i64 0,.int .i64 0,.int .i64 0,.int .i64 0]) (t:=67) ?hr ?_;(case hd=>rfl);(case hg=>rfl);(case hr=>first|(go_simp;done)|(go_simp;rfl));intro gb252 hg w102 hbox hb;have BK252:=mk0 (hbox);have GW252:=szw hg HB;have GE252:=GW252;have NB225_252:=nlt hg BK225;have NB252_225:=ngt hg BK225;have NB226_252:=nlt hg BK226;have NB252_226:=ngt hg BK226;have NB227_252:=nlt hg BK227;have NB252_227:=ngt hg BK227;have NB240_252:=nlt hg BK240;have NB252_240:=ngt hg BK240;have NB241_252:=nlt hg BK241;have NB252_241:=ngt hg BK241;replace BK225:=bkb BK225 hb;replace BK226:=bkb BK226 hb;replace BK227:=bkb BK227 hb;replace BK240:=bkb BK240 hb;replace BK241:=bkb BK241 hb;replace HB:=bst HB hb;clear hb hbox hg;have hnb103:=NB252_225.out;have hnc103:=NB225_252.out;have hnb104:=NB252_226.out;have hnc104:=NB226_252.out;have hnb105:=NB252_227.out;have hnc105:=NB227_252.out;have hnb106:=NB252_240.out;have hnc106:=NB240_252.out;have hnb107:=NB252_241.out;have hnc107:=NB241_252.out;have hcz108_0:w102.cell? ⟨gb252,0,none⟩=some (.int .i64 0):=(blk_cell BK252.out 0).trans rfl;have hcz108_1:w102.cell? ⟨gb252,1,none⟩=some (.int .i64 0):=(blk_cell BK252.out 1).trans rfl;have hcz108_2:w102.cell? ⟨gb252,2,none⟩=some (.int .i64 0):=(blk_cell BK252.out 2).trans rfl;have hcz108_3:w102.cell? ⟨gb252,3,none⟩=some (.int .i64 0):=(blk_cell BK252.out 3).trans rfl;have hfz108_0:=blk_frozen BK252.out 0;have hfz108_1:=blk_frozen BK252.out 1;have hfz108_2:=blk_frozen BK252.out 2;have hfz108_3:=blk_frozen BK252.out 3)|((with_reducible refine gate_callee (f:=53) rfl ?_);refine goesL_ (some 48) rfl rfl Try.func53 (by kernel_rfl) rfl #[] rfl (by (try simp only [List.map_toArray,List.map_cons,List.map_nil]);first|done|rfl|(simp only [List.length_drop,List.length_take];rfl)) ?_;(with_reducible refine (norm_units.calls k2  t253 _ A92.out).mono ?_);rintro e w109 ⟨v254,rfl,ho0,hb⟩;refine ⟨_,rfl,?_⟩;have HO255:=mk0 (Kd.R_lower (Kd.R_newB (Kd.R_newB (Kd.R_newB ho0 (g:=gb240) (o:=.cells #[.int .i64 x241000_2,.int .i64 x241001_2,.int .i64 x241002_2,.int .i64 x241003_2] 67 (0,0)) (by (iterate 4 refine blk_far ?_ NB240_252.out _);exact BK240.out)) (g:=gb241) (o:=.cells #[.int .i64 x242000_2,.int .i64 x242001_2,.int .i64 x242002_2,.int .i64 x242003_2] 67 (0,0)) (by (iterate 4 refine blk_far ?_ NB241_252.out _);exact BK241.out)) (g:=gb252) (o:=.cells #[.int .i64 x241000_2,.int .i64 x241001_2,.int .i64 x241002_2,.int .i64 x241003_2] 67 (0,0)) (by refine blk_put (cs:=#[.int .i64 x241000_2,.int .i64 x241001_2,.int .i64 x241002_2,.int .i64 0]) ?_ 3 _ rfl;refine blk_put (cs:=#[.int .i64 x241000_2,.int .i64 x241001_2,.int .i64 0,.int .i64 0]) ?_ 2 _ rfl;refine blk_put (cs:=#[.int .i64 x241000_2,.int .i64 0,.int .i64 0,.int .i64 0]) ?_ 1 _ rfl;refine blk_put (cs:=#[.int .i64 0,.int .i64 0,.int .i64 0,.int .i64 0]) ?_ 0 _ rfl;exact BK252.out)) (below_size (by repeat (with_reducible first|exact HB.out|refine below_set ?_ GE225.out|refine below_set ?_ GE226.out|refine below_set ?_ GE227.out|refine below_set ?_ GE240.out|refine below_set ?_ GE241.out|refine below_set ?_ GE252.out))));replace BK225:=mk0 (blk_below (g:=gb225) (o:=.cells #[.int .i64 a0_0,.int .i64 a0_1,.int .i64 a0_2,.int .i64 a0_3] 23 (0,0)) (by (iterate 4 refine blk_far ?_ NB225_252.out _);exact BK225.out) hb);replace BK226:=mk0 (blk_below (g:=gb226) (o:=.cells #[.int .i64 a1_0,.int .i64 a1_1,.int .i64 a1_2,.int .i64 a1_3] 23 (0,0)) (by (iterate 4 refine blk_far ?_ NB226_252.out _);exact BK226.out) hb);replace BK227:=mk0 (blk_below (g:=gb227) (o:=.cells #[.int .i64 0,.int .i64 0,.int .i64 0,.int .i64 0] 23 (0,0)) (by (iterate 4 refine blk_far ?_ NB227_252.out _);exact BK227.out) hb);replace BK240:=mk0 (blk_below (g:=gb240) (o:=.cells #[.int .i64 x241000_2,.int .i64 x241001_2,.int .i64 x241002_2,.int .i64 x241003_2] 67 (0,0)) (by (iterate 4 refine blk_far ?_ NB240_252.out _);exact BK240.out) hb);replace BK241:=mk0 (blk_below (g:=gb241) (o:=.cells #[.int .i64 x242000_2,.int .i64 x242001_2,.int .i64 x242002_2,.int .i64 x242003_2] 67 (0,0)) (by (iterate 4 refine blk_far ?_ NB241_252.out _);exact BK241.out) hb);replace BK252:=mk0 (blk_below (g:=gb252) (o:=.cells #[.int .i64 x241000_2,.int .i64 x241001_2,.int .i64 x241002_2,.int .i64 x241003_2] 67 (0,0)) (by refine blk_put (cs:=#[.int .i64 x241000_2,.int .i64 x241001_2,.int .i64 x241002_2,.int .i64 0]) ?_ 3 _ rfl;refine blk_put (cs:=#[.int .i64 x241000_2,.int .i64 x241001_2,.int .i64 0,.int .i64 0]) ?_ 2 _ rfl;refine blk_put (cs:=#[.int .i64 x241000_2,.int .i64 0,.int .i64 0,.int .i64 0]) ?_ 1 _ rfl;refine blk_put (cs:=#[.int .i64 0,.int .i64 0,.int .i64 0,.int .i64 0]) ?_ 0 _ rfl;exact BK252.out) hb);replace HB:=mk0 (below_step (by repeat (with_reducible first|exact HB.out|refine below_set ?_ GE225.out|refine below_set ?_ GE226.out|refine below_set ?_ GE227.out|refine below_set ?_ GE240.out|refine below_set ?_ GE241.out|refine below_set ?_ GE252.out)) hb);(try clear hb);(try clear ho0);obtain ⟨Ao110,co110,eo110⟩:=Kd.R_slice HO255.out;subst eo110))
        go_loopg [50] k2 (fun kq v50 w'=>∃ (x50_3:Int) (x253000_3:Int) (x253001_3:Int) (x253002_3:Int) (x253003_3:Int),v50=.int .i64 x50_3∧Aside0 (norm_Gcd.l1 kq t253 (t253.length:Int) x50_3 x241000_2 x241001_2 x241002_2 x241003_2 x253000_3 x253001_3 x253002_3 x253003_3=some (r1,r2,r3,r4,r5))∧Aside0 (kq ≤ k2)∧Aside0 (Kd.R k67 67 w' w.heap.size (fun k_=>k_ ≠ gb240∧k_ ≠ gb241∧k_ ≠ gb252) (.slice Ao110 t253.length co110) t253)∧Aside0 (w'.heap[gb225]?=some (.cells #[.int .i64 a0_0,.int .i64 a0_1,.int .i64 a0_2,.int .i64 a0_3] 23 (0,0)))∧Aside0 (w'.heap[gb226]?=some (.cells #[.int .i64 a1_0,.int .i64 a1_1,.int .i64 a1_2,.int .i64 a1_3] 23 (0,0)))∧Aside0 (w'.heap[gb227]?=some (.cells #[.int .i64 0,.int .i64 0,.int .i64 0,.int .i64 0] 23 (0,0)))∧Aside0 (w'.heap[gb240]?=some (.cells #[.int .i64 x241000_2,.int .i64 x241001_2,.int .i64 x241002_2,.int .i64 x241003_2] 67 (0,0)))∧Aside0 (w'.heap[gb241]?=some (.cells #[.int .i64 x242000_2,.int .i64 x242001_2,.int .i64 x242002_2,.int .i64 x242003_2] 67 (0,0)))∧Aside0 (w'.heap[gb252]?=some (.cells #[.int .i64 x253000_3,.int .i64 x253001_3,.int .i64 x253002_3,.int .i64 x253003_3] 67 (0,0)))∧Aside0 (Below w.heap.size w w'))
        case atStart=>exact ⟨(0),(x241000_2),(x241001_2),(x241002_2),(x241003_2),(by first|rfl|(simp;done)|(simp [*];done)),H',⟨Nat.le_refl _⟩,⟨by (with_reducible repeat (first|apply Kd.R_alloc|apply Kd.R_drewN|apply Kd.R_drew));exact Kd.R_mono HO255.out (fun _ hk=>⟨hk.1.1.2,⟨hk.1.2,hk.2⟩⟩)⟩,⟨by exact BK225.out⟩,⟨by exact BK226.out⟩,⟨by exact BK227.out⟩,⟨by exact BK240.out⟩,⟨by exact BK241.out⟩,⟨by exact BK252.out⟩,⟨by repeat (first|(with_reducible first|exact HB.out|apply below_alloc|apply pw_below_drewN|apply below_drew1|refine below_set ?_ GE225.out|refine below_set ?_ GE226.out|refine below_set ?_ GE227.out|refine below_set ?_ GE240.out|refine below_set ?_ GE241.out|refine below_set ?_ GE252.out)|exact HB.out)⟩⟩
        case round =>
         clear H';try clear c1
         try clear p2
         try clear c3
         try clear c4
         try clear c5
         try clear c6
         try clear c7
         try clear c8
         try clear c9
         try clear c10
         try clear c34
         try clear c34b0
         try clear c34b1
         try clear c34b2
         try clear c35
         try clear c36
         try clear c37
         try clear c38
         try clear c40
         try clear c41
         try clear c42
         try clear c44
         try clear c45
         try clear c46
         try clear c47
         try clear c48
         try clear c49
         try clear c50
         try clear c51
         try clear c52
         try clear c53
         try clear c55
         try clear c55b0
         try clear c57
         try clear c58
         try clear c59
         try clear c60
         try clear c62
         try clear c63
         try clear c64
         try clear c69
         try clear c70
         try clear c71
         try clear c72
         try clear c73
         try clear c74
         try clear c76
         try clear c77
         try clear c78
         try clear c79
         try clear c80
         try clear c93
         try clear c94
         try clear c95
         try clear c96
         try clear c98
         try clear c99
         try clear c100
         try clear c103
         try clear c104
         try clear c105
         try clear c106
         try clear c107
         try clear hcz101_0
         try clear hcz101_1
         try clear hcz101_2
         try clear hcz101_3
         try clear hcz108_0
         try clear hcz108_1
         try clear hcz108_2
         try clear hcz108_3
         try clear hcz39_0
         try clear hcz39_1
         try clear hcz39_2
         try clear hcz39_3
         try clear hcz43_0
         try clear hcz43_1
         try clear hcz43_2
         try clear hcz43_3
         try clear hcz48_0
         try clear hcz48_1
         try clear hcz48_2
         try clear hcz48_3
         try clear hcz54_0
         try clear hcz54_1
         try clear hcz54_2
         try clear hcz54_3
         try clear hcz61_0
         try clear hcz61_1
         try clear hcz61_2
         try clear hcz61_3
         try clear hcz65_0
         try clear hcz65_1
         try clear hcz65_2
         try clear hcz65_3
         try clear hcz75_0
         try clear hcz75_1
         try clear hcz75_2
         try clear hcz75_3
         try clear hcz81_0
         try clear hcz81_1
         try clear hcz81_2
         try clear hcz81_3
         try clear hcz97_0
         try clear hcz97_1
         try clear hcz97_2
         try clear hcz97_3
         try clear hfz101_0
         try clear hfz101_1
         try clear hfz101_2
         try clear hfz101_3
         try clear hfz108_0
         try clear hfz108_1
         try clear hfz108_2
         try clear hfz108_3
         try clear hfz39_0
         try clear hfz39_1
         try clear hfz39_2
         try clear hfz39_3
         try clear hfz43_0
         try clear hfz43_1
         try clear hfz43_2
         try clear hfz43_3
         try clear hfz48_0
         try clear hfz48_1
         try clear hfz48_2
         try clear hfz48_3
         try clear hfz54_0
         try clear hfz54_1
         try clear hfz54_2
         try clear hfz54_3
         try clear hfz61_0
         try clear hfz61_1
         try clear hfz61_2
         try clear hfz61_3
         try clear hfz65_0
         try clear hfz65_1
         try clear hfz65_2
         try clear hfz65_3
         try clear hfz75_0
         try clear hfz75_1
         try clear hfz75_2
         try clear hfz75_3
         try clear hfz81_0
         try clear hfz81_1
         try clear hfz81_2
         try clear hfz81_3
         try clear hfz97_0
         try clear hfz97_1
         try clear hfz97_2
         try clear hfz97_3
         try clear p2
         obtain ⟨x50_3,x253000_3,x253001_3,x253002_3,x253003_3,rfl,HA,HK3,HO_48,BK225,BK226,BK227,BK240,BK241,BK252,HB⟩:=hrel;cases gk with
         | zero=>exact absurd HA.out (by simp [norm_Gcd.l1])
         | succ k3 =>
          have H:=HA.out;clear HA;simp only [norm_Gcd.l1] at H
          by_cases c111:x50_3 < (t253.length:Int)
          ·
           rw [if_pos c111] at H;have c111b0:decide (x50_3 < (t253.length:Int))=true:=decide_eq_true c111;clear c111
           by_cases c112:0 ≤ x50_3
           ·
            rw [if_pos c112] at H;have c112b0:decide (0 ≤ x50_3)=true:=decide_eq_true c112;clear c112
            by_cases c113:x50_3 < (t253.length:Int)
            ·
             rw [if_pos c113] at H;have c113b0:decide (x50_3 < (t253.length:Int))=true:=decide_eq_true c113;clear c113;obtain ⟨y262,hy262⟩:∃ y_:List (S67),y_=(([(⟨(rd_T67 t253 x50_3).f0,(rd_T67 t253 x50_3).f1,(rd_T67 t253 x50_3).f2,(rd_T67 t253 x50_3).f3⟩:S67),(⟨x241000_2,x241001_2,x241002_2,x241003_2⟩:S67)]:List (S67))):=⟨_,rfl⟩
             replace H:((norm_product.f k3 y262).bind fun bt265=>((slices_Compare_int_int.f k3 [bt265.1,bt265.2.1,bt265.2.2.1,bt265.2.2.2] [x253000_3,x253001_3,x253002_3,x253003_3]).bind fun t270=>(if t270 > 0 then (norm_Gcd.l1 k3 t253 (t253.length:Int) (wrap64 (x50_3 + 1)) x241000_2 x241001_2 x241002_2 x241003_2 bt265.1 bt265.2.1 bt265.2.2.1 bt265.2.2.2) else (norm_Gcd.l1 k3 t253 (t253.length:Int) (wrap64 (x50_3 + 1)) x241000_2 x241001_2 x241002_2 x241003_2 x253000_3 x253001_3 x253002_3 x253003_3))))=some (r1,r2,r3,r4,r5):=by first|(rw [hy262];with_reducible exact H)|(have H2_:=(Option.bind_some _ _).symm.trans H;rw [hy262];with_reducible exact H2_)|(have H2_:=(Option.bind_some _ _).symm.trans H;with_reducible exact H2_)|with_reducible exact H|(rw [hy262];exact H)|exact H
             have Ny262:=mk0 hy262;clear hy262;replace H:=Option.bind_eq_some_iff.mp H;obtain ⟨⟨t265,t266,t267,t268⟩,A1140,H⟩:=H;(try dsimp only at H);have A114:=mk0 A1140;clear A1140;replace H:=Option.bind_eq_some_iff.mp H;obtain ⟨t270,A1150,H⟩:=H;(try dsimp only at H);have A115:=mk0 A1150;clear A1150
             by_cases c116:t270 > 0
             ·
              rw [if_pos c116] at H;have c116b0:decide (0 < t270)=true:=decide_eq_true c116;clear c116;have H':=mk0 H;clear H;have p260:0 ≤ (x50_3:Int):=of_decide_eq_true (by first|(with_reducible assumption)|assumption);have q260:x50_3 < (t253.length:Int):=of_decide_eq_true (by first|(with_reducible assumption)|assumption);obtain ⟨ad260,e260,hx260_0,hx260_1,hx260_2,hx260_3⟩:=at_T67 (Kd.R_reads' HO_48.out).2.2 x50_3 p260 q260;cases e260;replace p260:=eq_true p260;replace q260:=eq_true q260;try go_wp2_with (first|((with_reducible refine gate_dst (N:=13) rfl ?_);refine box_event ?hg (N:=13) ?hd (cs:=#[.int .i64 0,.int .i64 0,.int .i64 0,.int .i64 0]) (t:=67) ?hr ?_;(case hd=>rfl);(case hg=>rfl);(case hr=>first|(go_simp;done)|(go_simp;rfl));intro gb261 hg w117 hbox hb;have BK261:=mk0 (hbox);have GW261:=szw hg HB;have GE261:=GW261;have NB225_261:=nlt hg BK225;have NB261_225:=ngt hg BK225;have NB226_261:=nlt hg BK226;have NB261_226:=ngt hg BK226;have NB227_261:=nlt hg BK227;have NB261_227:=ngt hg BK227;have NB240_261:=nlt hg BK240;have NB261_240:=ngt hg BK240;have NB241_261:=nlt hg BK241;have NB261_241:=ngt hg BK241;have NB252_261:=nlt hg BK252;have NB261_252:=ngt hg BK252;replace HO_48:=mk0 (Kd.R_below (Kd.R_elderB HO_48.out gb261 (Nat.le_of_eq hg.symm)) hb);replace BK225:=bkb BK225 hb;replace BK226:=bkb BK226 hb;replace BK227:=bkb BK227 hb;replace BK240:=bkb BK240 hb;replace BK241:=bkb BK241 hb;replace BK252:=bkb BK252 hb;replace HB:=bst HB hb;clear hb hbox hg;have hnb118:=NB261_225.out;have hnc118:=NB225_261.out;have hnb119:=NB261_226.out;have hnc119:=NB226_261.out;have hnb120:=NB261_227.out;have hnc120:=NB227_261.out;have hnb121:=NB261_240.out;have hnc121:=NB240_261.out;have hnb122:=NB261_241.out;have hnc122:=NB241_261.out;have hnb123:=NB261_252.out;have hnc123:=NB252_261.out;have hcz124_0:w117.cell? ⟨gb261,0,none⟩=some (.int .i64 0):=(blk_cell BK261.out 0).trans rfl;have hcz124_1:w117.cell? ⟨gb261,1,none⟩=some (.int .i64 0):=(blk_cell BK261.out 1).trans rfl;have hcz124_2:w117.cell? ⟨gb261,2,none⟩=some (.int .i64 0):=(blk_cell BK261.out 2).trans rfl;have hcz124_3:w117.cell? ⟨gb261,3,none⟩=some (.int .i64 0):=(blk_cell BK261.out 3).trans rfl;have hfz124_0:=blk_frozen BK261.out 0;have hfz124_1:=blk_frozen BK261.out 1;have hfz124_2:=blk_frozen BK261.out 2;have hfz124_3:=blk_frozen BK261.out 3;have hnb125:=NB240_225.out;have hnc125:=NB225_240.out;have hnb126:=NB240_226.out;have hnc126:=NB226_240.out;have hnb127:=NB240_227.out;have hnc127:=NB227_240.out;have hnb128:=NB240_241.out;have hnc128:=NB241_240.out;have hnb129:=NB240_252.out;have hnc129:=NB252_240.out;have hcz130_0:w117.cell? ⟨gb240,0,none⟩=some (.int .i64 x241000_2):=(blk_cell BK240.out 0).trans rfl;have hcz130_1:w117.cell? ⟨gb240,1,none⟩=some (.int .i64 x241001_2):=(blk_cell BK240.out 1).trans rfl;have hcz130_2:w117.cell? ⟨gb240,2,none⟩=some (.int .i64 x241002_2):=(blk_cell BK240.out 2).trans rfl;have hcz130_3:w117.cell? ⟨gb240,3,none⟩=some (.int .i64 x241003_2):=(blk_cell BK240.out 3).trans rfl;have hfz130_0:=blk_frozen BK240.out 0;have hfz130_1:=blk_frozen BK240.out 1;have hfz130_2:=blk_frozen BK240.out 2;have hfz130_3:=blk_frozen BK240.out 3)|((with_reducible refine gate_dst (N:=56) rfl ?_);refine Kd.R_lit k67 _ 67 ?hg (N:=56) ?hd (xs:=([(⟨(rd_T67 t253 x50_3).f0,(rd_T67 t253 x50_3).f1,(rd_T67 t253 x50_3).f2,(rd_T67 t253 x50_3).f3⟩:S67),(⟨x241000_2,x241001_2,x241002_2,x241003_2⟩:S67)]:List (S67))) (inner:=[.int .i64 ((rd_T67 t253 x50_3).f0),.int .i64 ((rd_T67 t253 x50_3).f1),.int .i64 ((rd_T67 t253 x50_3).f2),.int .i64 ((rd_T67 t253 x50_3).f3),.int .i64 x241000_2,.int .i64 x241001_2,.int .i64 x241002_2,.int .i64 x241003_2]) (ok:=fun _=>True) (okp:=fun _=>True) ?hr ?hp (fun _ hk=>hk) trivial (Below.refl _ _) (Nat.le_refl _) (by simp) ?_;(case hd=>rfl);(case hg=>rfl);(case hr=>first|(go_simp;done)|(go_simp;rfl));(case hp=>exact (Reps.c4 (show Kd.M k67 _ _ _ (⟨(rd_T67 t253 x50_3).f0,(rd_T67 t253 x50_3).f1,(rd_T67 t253 x50_3).f2,(rd_T67 t253 x50_3).f3⟩:S67) [.int .i64 ((rd_T67 t253 x50_3).f0),.int .i64 ((rd_T67 t253 x50_3).f1),.int .i64 ((rd_T67 t253 x50_3).f2),.int .i64 ((rd_T67 t253 x50_3).f3)] from (k67_mkM _ _ _ (⟨(rd_T67 t253 x50_3).f0,(rd_T67 t253 x50_3).f1,(rd_T67 t253 x50_3).f2,(rd_T67 t253 x50_3).f3⟩:S67) )) (Reps.c4 (show Kd.M k67 _ _ _ (⟨x241000_2,x241001_2,x241002_2,x241003_2⟩:S67) [.int .i64 x241000_2,.int .i64 x241001_2,.int .i64 x241002_2,.int .i64 x241003_2] from (k67_mkM _ _ _ (⟨x241000_2,x241001_2,x241002_2,x241003_2⟩:S67) )) (Reps.none _ _))));intro v263 w131 ho132 hb hg_ hnew_;clear hg_ hnew_;(first|rw [← Ny262.out] at ho132|(simp only [Int.reduceToNat] at ho132;rw [← Ny262.out] at ho132));have HO264:=mk0 (Kd.R_lower (Kd.R_newB (Kd.R_newB (Kd.R_newB (Kd.R_newB (Kd.R_new' ho132 (Kd.R_lt (by (with_reducible repeat (first|apply Kd.R_alloc|apply Kd.R_drewN|apply Kd.R_drew));exact (Kd.R_mono (Kd.R_far (p:=⟨gb261,3,none⟩) (Kd.R_far (p:=⟨gb261,2,none⟩) (Kd.R_far (p:=⟨gb261,1,none⟩) (Kd.R_far (p:=⟨gb261,0,none⟩) (Kd.R_mono HO_48.out (fun k_ hk=>(⟨hk,hk.2⟩:_∧k_ ≠ gb261))) (fun _ hk=>hk.2) (.int .i64 ((rd_T67 t253 x50_3).f0))) (fun _ hk=>hk.2) (.int .i64 ((rd_T67 t253 x50_3).f1))) (fun _ hk=>hk.2) (.int .i64 ((rd_T67 t253 x50_3).f2))) (fun _ hk=>hk.2) (.int .i64 ((rd_T67 t253 x50_3).f3))) (fun _ h_=>h_.1))))) (g:=gb240) (o:=.cells #[.int .i64 x241000_2,.int .i64 x241001_2,.int .i64 x241002_2,.int .i64 x241003_2] 67 (0,0)) (by (iterate 4 refine blk_far ?_ NB240_261.out _);exact BK240.out)) (g:=gb241) (o:=.cells #[.int .i64 x242000_2,.int .i64 x242001_2,.int .i64 x242002_2,.int .i64 x242003_2] 67 (0,0)) (by (iterate 4 refine blk_far ?_ NB241_261.out _);exact BK241.out)) (g:=gb252) (o:=.cells #[.int .i64 x253000_3,.int .i64 x253001_3,.int .i64 x253002_3,.int .i64 x253003_3] 67 (0,0)) (by (iterate 4 refine blk_far ?_ NB252_261.out _);exact BK252.out)) (g:=gb261) (o:=.cells #[.int .i64 ((rd_T67 t253 x50_3).f0),.int .i64 ((rd_T67 t253 x50_3).f1),.int .i64 ((rd_T67 t253 x50_3).f2),.int .i64 ((rd_T67 t253 x50_3).f3)] 67 (0,0)) (by refine blk_put (cs:=#[.int .i64 ((rd_T67 t253 x50_3).f0),.int .i64 ((rd_T67 t253 x50_3).f1),.int .i64 ((rd_T67 t253 x50_3).f2),.int .i64 0]) ?_ 3 _ rfl;refine blk_put (cs:=#[.int .i64 ((rd_T67 t253 x50_3).f0),.int .i64 ((rd_T67 t253 x50_3).f1),.int .i64 0,.int .i64 0]) ?_ 2 _ rfl;refine blk_put (cs:=#[.int .i64 ((rd_T67 t253 x50_3).f0),.int .i64 0,.int .i64 0,.int .i64 0]) ?_ 1 _ rfl;refine blk_put (cs:=#[.int .i64 0,.int .i64 0,.int .i64 0,.int .i64 0]) ?_ 0 _ rfl;exact BK261.out)) (below_size (by repeat (with_reducible first|exact HB.out|refine below_set ?_ GE225.out|refine below_set ?_ GE226.out|refine below_set ?_ GE227.out|refine below_set ?_ GE240.out|refine below_set ?_ GE241.out|refine below_set ?_ GE252.out|refine below_set ?_ GE261.out))));replace HO_48:=mk0 (Kd.R_elder' (by (with_reducible repeat (first|apply Kd.R_alloc|apply Kd.R_drewN|apply Kd.R_drew));exact (Kd.R_mono (Kd.R_far (p:=⟨gb261,3,none⟩) (Kd.R_far (p:=⟨gb261,2,none⟩) (Kd.R_far (p:=⟨gb261,1,none⟩) (Kd.R_far (p:=⟨gb261,0,none⟩) (Kd.R_mono HO_48.out (fun k_ hk=>(⟨hk,hk.2⟩:_∧k_ ≠ gb261))) (fun _ hk=>hk.2) (.int .i64 ((rd_T67 t253 x50_3).f0))) (fun _ hk=>hk.2) (.int .i64 ((rd_T67 t253 x50_3).f1))) (fun _ hk=>hk.2) (.int .i64 ((rd_T67 t253 x50_3).f2))) (fun _ hk=>hk.2) (.int .i64 ((rd_T67 t253 x50_3).f3))) (fun _ h_=>h_.1))) (Kd.R_base ho132) hb);replace BK225:=mk0 (blk_below (g:=gb225) (o:=.cells #[.int .i64 a0_0,.int .i64 a0_1,.int .i64 a0_2,.int .i64 a0_3] 23 (0,0)) (by (iterate 4 refine blk_far ?_ NB225_261.out _);exact BK225.out) hb);replace BK226:=mk0 (blk_below (g:=gb226) (o:=.cells #[.int .i64 a1_0,.int .i64 a1_1,.int .i64 a1_2,.int .i64 a1_3] 23 (0,0)) (by (iterate 4 refine blk_far ?_ NB226_261.out _);exact BK226.out) hb);replace BK227:=mk0 (blk_below (g:=gb227) (o:=.cells #[.int .i64 0,.int .i64 0,.int .i64 0,.int .i64 0] 23 (0,0)) (by (iterate 4 refine blk_far ?_ NB227_261.out _);exact BK227.out) hb);replace BK240:=mk0 (blk_below (g:=gb240) (o:=.cells #[.int .i64 x241000_2,.int .i64 x241001_2,.int .i64 x241002_2,.int .i64 x241003_2] 67 (0,0)) (by (iterate 4 refine blk_far ?_ NB240_261.out _);exact BK240.out) hb);replace BK241:=mk0 (blk_below (g:=gb241) (o:=.cells #[.int .i64 x242000_2,.int .i64 x242001_2,.int .i64 x242002_2,.int .i64 x242003_2] 67 (0,0)) (by (iterate 4 refine blk_far ?_ NB241_261.out _);exact BK241.out) hb);replace BK252:=mk0 (blk_below (g:=gb252) (o:=.cells #[.int .i64 x253000_3,.int .i64 x253001_3,.int .i64 x253002_3,.int .i64 x253003_3] 67 (0,0)) (by (iterate 4 refine blk_far ?_ NB252_261.out _);exact BK252.out) hb);replace BK261:=mk0 (blk_below (g:=gb261) (o:=.cells #[.int .i64 ((rd_T67 t253 x50_3).f0),.int .i64 ((rd_T67 t253 x50_3).f1),.int .i64 ((rd_T67 t253 x50_3).f2),.int .i64 ((rd_T67 t253 x50_3).f3)] 67 (0,0)) (by refine blk_put (cs:=#[.int .i64 ((rd_T67 t253 x50_3).f0),.int .i64 ((rd_T67 t253 x50_3).f1),.int .i64 ((rd_T67 t253 x50_3).f2),.int .i64 0]) ?_ 3 _ rfl;refine blk_put (cs:=#[.int .i64 ((rd_T67 t253 x50_3).f0),.int .i64 ((rd_T67 t253 x50_3).f1),.int .i64 0,.int .i64 0]) ?_ 2 _ rfl;refine blk_put (cs:=#[.int .i64 ((rd_T67 t253 x50_3).f0),.int .i64 0,.int .i64 0,.int .i64 0]) ?_ 1 _ rfl;refine blk_put (cs:=#[.int .i64 0,.int .i64 0,.int .i64 0,.int .i64 0]) ?_ 0 _ rfl;exact BK261.out) hb);replace HB:=mk0 (below_step (by repeat (with_reducible first|exact HB.out|refine below_set ?_ GE225.out|refine below_set ?_ GE226.out|refine below_set ?_ GE227.out|refine below_set ?_ GE240.out|refine below_set ?_ GE241.out|refine below_set ?_ GE252.out|refine below_set ?_ GE261.out)) hb);clear hb ho132;obtain ⟨Ao133,co133,eo133⟩:=Kd.R_slice HO264.out;subst eo133)|((with_reducible refine gate_callee (f:=54) rfl ?_);refine goesL_ (some 57) rfl rfl Try.func54 (by kernel_rfl) rfl #[.slice Ao133 y262.length co133] rfl (by (try simp only [List.map_toArray,List.map_cons,List.map_nil]);first|done|rfl|(simp only [List.length_drop,List.length_take];rfl)) ?_;(with_reducible refine (norm_product.calls k3 _ _ y262 t265 t266 t267 t268 _ ?side1 ?side2 A114.out).mono ?_);(case side1=>repeat (first|exact (Kd.R_reads' HO264.out).2.2|(with_reducible refine Kd.C_alloc ?_ _)|(with_reducible refine Kd.C_drewN ?_ _)|(with_reducible refine Kd.C_drew ?_)));(case side2=>exact (Kd.R_reads' HO264.out).2.1);rintro e w134 ⟨rfl,hb⟩;refine ⟨_,rfl,?_⟩;replace HO_48:=rbl HO_48 hb;replace HO264:=rbl HO264 hb;replace BK225:=bkb BK225 hb;replace BK226:=bkb BK226 hb;replace BK227:=bkb BK227 hb;replace BK240:=bkb BK240 hb;replace BK241:=bkb BK241 hb;replace BK252:=bkb BK252 hb;replace BK261:=bkb BK261 hb;replace HB:=bst HB hb;(try clear hb);(try clear hk))|((with_reducible refine gate_dst (N:=14) rfl ?_);refine box_event ?hg (N:=14) ?hd (cs:=#[.int .i64 0,.int .i64 0,.int .i64 0,.int .i64 0]) (t:=67) ?hr ?_;(case hd=>rfl);(case hg=>rfl);(case hr=>first|(go_simp;done)|(go_simp;rfl));intro gb269 hg w135 hbox hb;have BK269:=mk0 (hbox);have GW269:=szw hg HB;have GE269:=GW269;have NB225_269:=nlt hg BK225;have NB269_225:=ngt hg BK225;have NB226_269:=nlt hg BK226;have NB269_226:=ngt hg BK226;have NB227_269:=nlt hg BK227;have NB269_227:=ngt hg BK227;have NB240_269:=nlt hg BK240;have NB269_240:=ngt hg BK240;have NB241_269:=nlt hg BK241;have NB269_241:=ngt hg BK241;have NB252_269:=nlt hg BK252;have NB269_252:=ngt hg BK252;have NB261_269:=nlt hg BK261;have NB269_261:=ngt hg BK261;replace HO_48:=mk0 (Kd.R_below (Kd.R_elderB HO_48.out gb269 (Nat.le_of_eq hg.symm)) hb);replace HO264:=mk0 (Kd.R_below (Kd.R_elderB HO264.out gb269 (Nat.le_of_eq hg.symm)) hb);replace BK225:=bkb BK225 hb;replace BK226:=bkb BK226 hb;replace BK227:=bkb BK227 hb;replace BK240:=bkb BK240 hb;replace BK241:=bkb BK241 hb;replace BK252:=bkb BK252 hb;replace BK261:=bkb BK261 hb;replace HB:=bst HB hb;clear hb hbox hg;have hnb136:=NB269_225.out;have hnc136:=NB225_269.out;have hnb137:=NB269_226.out;have hnc137:=NB226_269.out;have hnb138:=NB269_227.out;have hnc138:=NB227_269.out;have hnb139:=NB269_240.out;have hnc139:=NB240_269.out;have hnb140:=NB269_241.out;have hnc140:=NB241_269.out;have hnb141:=NB269_252.out;have hnc141:=NB252_269.out;have hnb142:=NB269_261.out;have hnc142:=NB261_269.out;have hcz143_0:w135.cell? ⟨gb269,0,none⟩=some (.int .i64 0):=(blk_cell BK269.out 0).trans rfl;have hcz143_1:w135.cell? ⟨gb269,1,none⟩=some (.int .i64 0):=(blk_cell BK269.out 1).trans rfl;have hcz143_2:w135.cell? ⟨gb269,2,none⟩=some (.int .i64 0):=(blk_cell BK269.out 2).trans rfl;have hcz143_3:w135.cell? ⟨gb269,3,none⟩=some (.int .i64 0):=(blk_cell BK269.out 3).trans rfl;have hfz143_0:=blk_frozen BK269.out 0;have hfz143_1:=blk_frozen BK269.out 1;have hfz143_2:=blk_frozen BK269.out 2;have hfz143_3:=blk_frozen BK269.out 3))
              have n0_:Aside0 (Kd.R k67 67 ((((w135.setCell ⟨gb269,0,none⟩ (.int .i64 t265)).setCell ⟨gb269,1,none⟩ (.int .i64 t266)).setCell ⟨gb269,2,none⟩ (.int .i64 t267)).setCell ⟨gb269,3,none⟩ (.int .i64 t268)) w.heap.size (fun k_=>some k_ ≠ (.slice Ao133 y262.length co133:Value).ownBlock∧k_ ≠ gb240∧k_ ≠ gb241∧k_ ≠ gb252∧k_ ≠ gb261∧k_ ≠ gb269) (.slice (some ad260) t253.length co110) t253):=⟨by (with_reducible repeat (first|apply Kd.R_alloc|apply Kd.R_drewN|apply Kd.R_drew));exact Kd.R_mono (Kd.R_far (p:=⟨gb269,3,none⟩) (Kd.R_far (p:=⟨gb269,2,none⟩) (Kd.R_far (p:=⟨gb269,1,none⟩) (Kd.R_far (p:=⟨gb269,0,none⟩) (Kd.R_mono HO_48.out (fun k_ hk=>(⟨hk,hk.2⟩:_∧k_ ≠ gb269))) (fun _ hk=>hk.2) (.int .i64 t265)) (fun _ hk=>hk.2) (.int .i64 t266)) (fun _ hk=>hk.2) (.int .i64 t267)) (fun _ hk=>hk.2) (.int .i64 t268)) (fun _ hk=>⟨hk.1.1.2,⟨hk.1.1.1.1.1,⟨hk.1.1.1.1.2.1,⟨hk.1.1.1.1.2.2,⟨hk.1.1.1.2,hk.1.2⟩⟩⟩⟩⟩)⟩
              have n1_:Aside0 (Kd.R k67 67 ((((w135.setCell ⟨gb269,0,none⟩ (.int .i64 t265)).setCell ⟨gb269,1,none⟩ (.int .i64 t266)).setCell ⟨gb269,2,none⟩ (.int .i64 t267)).setCell ⟨gb269,3,none⟩ (.int .i64 t268)) w.heap.size (fun k_=>some k_ ≠ (.slice (some ad260) t253.length co110:Value).ownBlock∧k_ ≠ gb240∧k_ ≠ gb241∧k_ ≠ gb252∧k_ ≠ gb261∧k_ ≠ gb269) (.slice Ao133 y262.length co133) y262):=⟨by (with_reducible repeat (first|apply Kd.R_alloc|apply Kd.R_drewN|apply Kd.R_drew));exact Kd.R_mono (Kd.R_far (p:=⟨gb269,3,none⟩) (Kd.R_far (p:=⟨gb269,2,none⟩) (Kd.R_far (p:=⟨gb269,1,none⟩) (Kd.R_far (p:=⟨gb269,0,none⟩) (Kd.R_mono HO264.out (fun k_ hk=>(⟨hk,hk.2⟩:_∧k_ ≠ gb269))) (fun _ hk=>hk.2) (.int .i64 t265)) (fun _ hk=>hk.2) (.int .i64 t266)) (fun _ hk=>hk.2) (.int .i64 t267)) (fun _ hk=>hk.2) (.int .i64 t268)) (fun _ hk=>⟨hk.1.1.1.1.1.1.2,⟨hk.1.1.1.1.1.2,⟨hk.1.1.1.1.2,⟨hk.1.1.1.2,⟨hk.1.1.2,hk.1.2⟩⟩⟩⟩⟩)⟩
              have n2_:Aside0 (((((w135.setCell ⟨gb269,0,none⟩ (.int .i64 t265)).setCell ⟨gb269,1,none⟩ (.int .i64 t266)).setCell ⟨gb269,2,none⟩ (.int .i64 t267)).setCell ⟨gb269,3,none⟩ (.int .i64 t268)).heap[gb225]?=some (.cells #[.int .i64 a0_0,.int .i64 a0_1,.int .i64 a0_2,.int .i64 a0_3] 23 (0,0))):=⟨by (iterate 4 refine blk_far ?_ NB225_269.out _);exact BK225.out⟩
              have n3_:Aside0 (((((w135.setCell ⟨gb269,0,none⟩ (.int .i64 t265)).setCell ⟨gb269,1,none⟩ (.int .i64 t266)).setCell ⟨gb269,2,none⟩ (.int .i64 t267)).setCell ⟨gb269,3,none⟩ (.int .i64 t268)).heap[gb226]?=some (.cells #[.int .i64 a1_0,.int .i64 a1_1,.int .i64 a1_2,.int .i64 a1_3] 23 (0,0))):=⟨by (iterate 4 refine blk_far ?_ NB226_269.out _);exact BK226.out⟩
              have n4_:Aside0 (((((w135.setCell ⟨gb269,0,none⟩ (.int .i64 t265)).setCell ⟨gb269,1,none⟩ (.int .i64 t266)).setCell ⟨gb269,2,none⟩ (.int .i64 t267)).setCell ⟨gb269,3,none⟩ (.int .i64 t268)).heap[gb227]?=some (.cells #[.int .i64 0,.int .i64 0,.int .i64 0,.int .i64 0] 23 (0,0))):=⟨by (iterate 4 refine blk_far ?_ NB227_269.out _);exact BK227.out⟩
              have n5_:Aside0 (((((w135.setCell ⟨gb269,0,none⟩ (.int .i64 t265)).setCell ⟨gb269,1,none⟩ (.int .i64 t266)).setCell ⟨gb269,2,none⟩ (.int .i64 t267)).setCell ⟨gb269,3,none⟩ (.int .i64 t268)).heap[gb240]?=some (.cells #[.int .i64 x241000_2,.int .i64 x241001_2,.int .i64 x241002_2,.int .i64 x241003_2] 67 (0,0))):=⟨by (iterate 4 refine blk_far ?_ NB240_269.out _);exact BK240.out⟩
              have n6_:Aside0 (((((w135.setCell ⟨gb269,0,none⟩ (.int .i64 t265)).setCell ⟨gb269,1,none⟩ (.int .i64 t266)).setCell ⟨gb269,2,none⟩ (.int .i64 t267)).setCell ⟨gb269,3,none⟩ (.int .i64 t268)).heap[gb241]?=some (.cells #[.int .i64 x242000_2,.int .i64 x242001_2,.int .i64 x242002_2,.int .i64 x242003_2] 67 (0,0))):=⟨by (iterate 4 refine blk_far ?_ NB241_269.out _);exact BK241.out⟩
              have n7_:Aside0 (((((w135.setCell ⟨gb269,0,none⟩ (.int .i64 t265)).setCell ⟨gb269,1,none⟩ (.int .i64 t266)).setCell ⟨gb269,2,none⟩ (.int .i64 t267)).setCell ⟨gb269,3,none⟩ (.int .i64 t268)).heap[gb252]?=some (.cells #[.int .i64 x253000_3,.int .i64 x253001_3,.int .i64 x253002_3,.int .i64 x253003_3] 67 (0,0))):=⟨by (iterate 4 refine blk_far ?_ NB252_269.out _);exact BK252.out⟩
              have n8_:Aside0 (((((w135.setCell ⟨gb269,0,none⟩ (.int .i64 t265)).setCell ⟨gb269,1,none⟩ (.int .i64 t266)).setCell ⟨gb269,2,none⟩ (.int .i64 t267)).setCell ⟨gb269,3,none⟩ (.int .i64 t268)).heap[gb261]?=some (.cells #[.int .i64 ((rd_T67 t253 x50_3).f0),.int .i64 ((rd_T67 t253 x50_3).f1),.int .i64 ((rd_T67 t253 x50_3).f2),.int .i64 ((rd_T67 t253 x50_3).f3)] 67 (0,0))):=⟨by (iterate 4 refine blk_far ?_ NB261_269.out _);exact BK261.out⟩
              have n9_:Aside0 (((((w135.setCell ⟨gb269,0,none⟩ (.int .i64 t265)).setCell ⟨gb269,1,none⟩ (.int .i64 t266)).setCell ⟨gb269,2,none⟩ (.int .i64 t267)).setCell ⟨gb269,3,none⟩ (.int .i64 t268)).heap[gb269]?=some (.cells #[.int .i64 t265,.int .i64 t266,.int .i64 t267,.int .i64 t268] 67 (0,0))):=⟨by refine blk_put (cs:=#[.int .i64 t265,.int .i64 t266,.int .i64 t267,.int .i64 0]) ?_ 3 _ rfl;refine blk_put (cs:=#[.int .i64 t265,.int .i64 t266,.int .i64 0,.int .i64 0]) ?_ 2 _ rfl;refine blk_put (cs:=#[.int .i64 t265,.int .i64 0,.int .i64 0,.int .i64 0]) ?_ 1 _ rfl;refine blk_put (cs:=#[.int .i64 0,.int .i64 0,.int .i64 0,.int .i64 0]) ?_ 0 _ rfl;exact BK269.out⟩
              have n10_:Aside0 (Below w.heap.size w ((((w135.setCell ⟨gb269,0,none⟩ (.int .i64 t265)).setCell ⟨gb269,1,none⟩ (.int .i64 t266)).setCell ⟨gb269,2,none⟩ (.int .i64 t267)).setCell ⟨gb269,3,none⟩ (.int .i64 t268))):=⟨by repeat (first|(with_reducible first|exact HB.out|apply below_alloc|apply pw_below_drewN|apply below_drew1|refine below_set ?_ GE225.out|refine below_set ?_ GE226.out|refine below_set ?_ GE227.out|refine below_set ?_ GE240.out|refine below_set ?_ GE241.out|refine below_set ?_ GE252.out|refine below_set ?_ GE261.out|refine below_set ?_ GE269.out)|exact HB.out)⟩
              (try clear HO_48);(try clear HO264);(try clear BK225);(try clear BK226);(try clear BK227);(try clear BK240);(try clear BK241);(try clear BK252);(try clear BK261);(try clear BK269);(try clear HB);generalize ((((w135.setCell ⟨gb269,0,none⟩ (.int .i64 t265)).setCell ⟨gb269,1,none⟩ (.int .i64 t266)).setCell ⟨gb269,2,none⟩ (.int .i64 t267)).setCell ⟨gb269,3,none⟩ (.int .i64 t268))=w144 at n0_ n1_ n2_ n3_ n4_ n5_ n6_ n7_ n8_ n9_ n10_ ⊢;have HO_48:=n0_;have HO264:=n1_;have BK225:=n2_;have BK226:=n3_;have BK227:=n4_;have BK240:=n5_;have BK241:=n6_;have BK252:=n7_;have BK261:=n8_;have BK269:=n9_;have HB:=n10_;clear n0_ n1_ n2_ n3_ n4_ n5_ n6_ n7_ n8_ n9_ n10_;replace HO_48:=rdr HO_48;replace HO264:=rdr HO264;replace BK225:=bdr BK225;replace BK226:=bdr BK226;replace BK227:=bdr BK227;replace BK240:=bdr BK240;replace BK241:=bdr BK241;replace BK252:=bdr BK252;replace BK261:=bdr BK261;replace BK269:=bdr BK269;replace HB:=hdr HB;refine start_ (n:=4) (S:=fun w'=>w'.cell? ⟨gb269,0,none⟩=some (.int .i64 t265)∧w'.cell? ⟨gb269,1,none⟩=some (.int .i64 t266)∧w'.cell? ⟨gb269,2,none⟩=some (.int .i64 t267)∧w'.cell? ⟨gb269,3,none⟩=some (.int .i64 t268)∧w'.cell? ⟨gb252,0,none⟩=some (.int .i64 x253000_3)∧w'.cell? ⟨gb252,1,none⟩=some (.int .i64 x253001_3)∧w'.cell? ⟨gb252,2,none⟩=some (.int .i64 x253002_3)∧w'.cell? ⟨gb252,3,none⟩=some (.int .i64 x253003_3)) (ds:=[]) #[false,false,false,false] (by kernel_rfl) rfl rfl ⟨(blk_cell BK269.out 0).trans rfl,(blk_cell BK269.out 1).trans rfl,(blk_cell BK269.out 2).trans rfl,(blk_cell BK269.out 3).trans rfl,(blk_cell BK252.out 0).trans rfl,(blk_cell BK252.out 1).trans rfl,(blk_cell BK252.out 2).trans rfl,(blk_cell BK252.out 3).trans rfl⟩ (fun hHeld=>?_);generalize w144.drew=w145 at HO_48 HO264 BK225 BK226 BK227 BK240 BK241 BK252 BK261 BK269 HB hHeld ⊢;refine pure_ (i:=0) (N:=some 58) (v:=?_) (a':=?_) #[true,false,false,false] rfl rfl (by kernel_rfl) (fun _ _ _ h=>h) (Or.inl ⟨by rfl,?_⟩) ?_ ?_;rotate_left
              ·
               intro w';go_simp;with_reducible rfl
              rotate_left
              ·
               simp only [Act.put,List.setIfInBounds_toArray,List.set_cons_zero,List.set_cons_succ,i64_w,i32_w];rfl
              refine pure_ (i:=1) (N:=some 59) (v:=?_) (a':=?_) #[true,true,false,false] rfl rfl (by kernel_rfl) (fun _ _ _ h=>h) (Or.inl ⟨by rfl,?_⟩) ?_ ?_;rotate_left
              ·
               intro w';go_simp;with_reducible rfl
              rotate_left
              ·
               simp only [Act.put,List.setIfInBounds_toArray,List.set_cons_zero,List.set_cons_succ,i64_w,i32_w];rfl
              refine one_ (i:=2) (N:=some 60) #[true,true,true,false] rfl rfl (by kernel_rfl) (by decide) (fun K hK=>?_);refine goes_ Try.func55 (by kernel_rfl) rfl #[.slice (some ⟨gb269,0,none⟩) [t265,t266,t267,t268].length 4,.slice (some ⟨gb252,0,none⟩) [x253000_3,x253001_3,x253002_3,x253003_3].length 4] (by rfl) rfl rfl (by (try simp only [List.map_toArray,List.map_cons,List.map_nil]);first|done|(rw [show [t265,t266,t267,t268].length=4 from rfl,show [x253000_3,x253001_3,x253002_3,x253003_3].length=4 from rfl] <;> rfl)|rfl|(simp only [List.length_drop,List.length_take];rfl)) ?_;with_reducible refine (slices_Compare_int_int.calls k3 _ _ [t265,t266,t267,t268] _ _ [x253000_3,x253001_3,x253002_3,x253003_3] t270 _ ?side1 ?side2 ?side3 ?side4 A115.out).mono ?_
              (case side1=>exact Go.Proofs.MyWords.C_box (t:=67) (cs:=#[.int .i64 t265,.int .i64 t266,.int .i64 t267,.int .i64 t268]) BK269.out (by rfl) (Nat.le_of_ble_eq_true rfl));(case side2=>exact Nat.le_refl _);(case side3=>exact Go.Proofs.MyWords.C_box (t:=67) (cs:=#[.int .i64 x253000_3,.int .i64 x253001_3,.int .i64 x253002_3,.int .i64 x253003_3]) BK252.out (by rfl) (Nat.le_of_ble_eq_true rfl));(case side4=>exact Nat.le_refl _);rintro e w' ⟨rfl,⟨nd,rfl⟩⟩;refine ⟨_,rfl,?_⟩;refine hK.out _ _ ⟨(blk_cell BK269.out 0).trans rfl,(blk_cell BK269.out 1).trans rfl,(blk_cell BK269.out 2).trans rfl,(blk_cell BK269.out 3).trans rfl,(blk_cell BK252.out 0).trans rfl,(blk_cell BK252.out 1).trans rfl,(blk_cell BK252.out 2).trans rfl,(blk_cell BK252.out 3).trans rfl⟩ (fun hHeld=>?_);clear hK K;refine norm_ (a':=?_) ?_ ?_;rotate_left
              ·
               show Act.put _ (some 60) _=_;simp only [Act.put,List.setIfInBounds_toArray,List.set_cons_zero,List.set_cons_succ,i64_w,i32_w];rfl
              refine pure_ (i:=3) (N:=some 61) (v:=?_) (a':=?_) #[true,true,true,true] rfl rfl (by kernel_rfl) (fun _ _ _ h=>h) (Or.inl ⟨by rfl,?_⟩) ?_ ?_;rotate_left
              ·
               intro w';go_simp;with_reducible rfl
              rotate_left
              ·
               simp only [Act.put,List.setIfInBounds_toArray,List.set_cons_zero,List.set_cons_succ,i64_w,i32_w];rfl
              refine done_ (by kernel_rfl) ?_;have hcz146_0:w145.cell? ⟨gb269,0,none⟩=some (.int .i64 t265):=(blk_cell BK269.out 0).trans rfl;have hcz146_1:w145.cell? ⟨gb269,1,none⟩=some (.int .i64 t266):=(blk_cell BK269.out 1).trans rfl;have hcz146_2:w145.cell? ⟨gb269,2,none⟩=some (.int .i64 t267):=(blk_cell BK269.out 2).trans rfl;have hcz146_3:w145.cell? ⟨gb269,3,none⟩=some (.int .i64 t268):=(blk_cell BK269.out 3).trans rfl;have hfz146_0:=blk_frozen BK269.out 0;have hfz146_1:=blk_frozen BK269.out 1;have hfz146_2:=blk_frozen BK269.out 2;have hfz146_3:=blk_frozen BK269.out 3;have hnb147:=NB252_225.out;have hnc147:=NB225_252.out;have hnb148:=NB252_226.out;have hnc148:=NB226_252.out;have hnb149:=NB252_227.out;have hnc149:=NB227_252.out;have hnb150:=NB252_241.out;have hnc150:=NB241_252.out;have hcz151_0:w145.cell? ⟨gb252,0,none⟩=some (.int .i64 x253000_3):=(blk_cell BK252.out 0).trans rfl;have hcz151_1:w145.cell? ⟨gb252,1,none⟩=some (.int .i64 x253001_3):=(blk_cell BK252.out 1).trans rfl;have hcz151_2:w145.cell? ⟨gb252,2,none⟩=some (.int .i64 x253002_3):=(blk_cell BK252.out 2).trans rfl;have hcz151_3:w145.cell? ⟨gb252,3,none⟩=some (.int .i64 x253003_3):=(blk_cell BK252.out 3).trans rfl;have hfz151_0:=blk_frozen BK252.out 0;have hfz151_1:=blk_frozen BK252.out 1;have hfz151_2:=blk_frozen BK252.out 2;have hfz151_3:=blk_frozen BK252.out 3;try go_wp2
              go_roundg k3
              case measure=>have:=HJ6.out;have:=HK2.out;have:=HK3.out;omega
              case rel=>exact ⟨(wrap64 (x50_3 + 1)),(t265),(t266),(t267),(t268),(by first|rfl|(simp;done)|(simp [*];done)),H',⟨by have:=HJ6.out;have:=HK2.out;have:=HK3.out;omega⟩,⟨by (with_reducible repeat (first|apply Kd.R_alloc|apply Kd.R_drewN|apply Kd.R_drew));exact Kd.R_mono (Kd.R_far (p:=⟨gb252,3,none⟩) (Kd.R_far (p:=⟨gb252,2,none⟩) (Kd.R_far (p:=⟨gb252,1,none⟩) (Kd.R_far (p:=⟨gb252,0,none⟩) (Kd.R_mono HO_48.out (fun k_ hk=>(⟨hk,hk.2.2.2.1⟩:_∧k_ ≠ gb252))) (fun _ hk=>hk.2) (.int .i64 t265)) (fun _ hk=>hk.2) (.int .i64 t266)) (fun _ hk=>hk.2) (.int .i64 t267)) (fun _ hk=>hk.2) (.int .i64 t268)) (fun _ hk=>⟨hk.1.2.1,⟨hk.1.2.2.1,hk.1.2.2.2.1⟩⟩)⟩,⟨by (iterate 4 refine blk_far ?_ NB225_252.out _);exact BK225.out⟩,⟨by (iterate 4 refine blk_far ?_ NB226_252.out _);exact BK226.out⟩,⟨by (iterate 4 refine blk_far ?_ NB227_252.out _);exact BK227.out⟩,⟨by (iterate 4 refine blk_far ?_ NB240_252.out _);exact BK240.out⟩,⟨by (iterate 4 refine blk_far ?_ NB241_252.out _);exact BK241.out⟩,⟨by refine blk_put (cs:=#[.int .i64 t265,.int .i64 t266,.int .i64 t267,.int .i64 x253003_3]) ?_ 3 _ rfl;refine blk_put (cs:=#[.int .i64 t265,.int .i64 t266,.int .i64 x253002_3,.int .i64 x253003_3]) ?_ 2 _ rfl;refine blk_put (cs:=#[.int .i64 t265,.int .i64 x253001_3,.int .i64 x253002_3,.int .i64 x253003_3]) ?_ 1 _ rfl;refine blk_put (cs:=#[.int .i64 x253000_3,.int .i64 x253001_3,.int .i64 x253002_3,.int .i64 x253003_3]) ?_ 0 _ rfl;exact BK252.out⟩,⟨by repeat (first|(with_reducible first|exact HB.out|apply below_alloc|apply pw_below_drewN|apply below_drew1|refine below_set ?_ GE225.out|refine below_set ?_ GE226.out|refine below_set ?_ GE227.out|refine below_set ?_ GE240.out|refine below_set ?_ GE241.out|refine below_set ?_ GE252.out|refine below_set ?_ GE261.out|refine below_set ?_ GE269.out)|exact HB.out)⟩⟩
             ·
              rw [if_neg c116] at H;have c116b0:decide (0 < t270)=false:=decide_eq_false c116;clear c116;have H':=mk0 H;clear H;have p260:0 ≤ (x50_3:Int):=of_decide_eq_true (by first|(with_reducible assumption)|assumption);have q260:x50_3 < (t253.length:Int):=of_decide_eq_true (by first|(with_reducible assumption)|assumption);obtain ⟨ad260,e260,hx260_0,hx260_1,hx260_2,hx260_3⟩:=at_T67 (Kd.R_reads' HO_48.out).2.2 x50_3 p260 q260;cases e260;replace p260:=eq_true p260;replace q260:=eq_true q260;try go_wp2_with (first|((with_reducible refine gate_dst (N:=13) rfl ?_);refine box_event ?hg (N:=13) ?hd (cs:=#[.int .i64 0,.int .i64 0,.int .i64 0,.int .i64 0]) (t:=67) ?hr ?_;(case hd=>rfl);(case hg=>rfl);(case hr=>first|(go_simp;done)|(go_simp;rfl));intro gb261 hg w152 hbox hb;have BK261:=mk0 (hbox);have GW261:=szw hg HB;have GE261:=GW261;have NB225_261:=nlt hg BK225;have NB261_225:=ngt hg BK225;have NB226_261:=nlt hg BK226;have NB261_226:=ngt hg BK226;have NB227_261:=nlt hg BK227;have NB261_227:=ngt hg BK227;have NB240_261:=nlt hg BK240;have NB261_240:=ngt hg BK240;have NB241_261:=nlt hg BK241;have NB261_241:=ngt hg BK241;have NB252_261:=nlt hg BK252;have NB261_252:=ngt hg BK252;replace HO_48:=mk0 (Kd.R_below (Kd.R_elderB HO_48.out gb261 (Nat.le_of_eq hg.symm)) hb);replace BK225:=bkb BK225 hb;replace BK226:=bkb BK226 hb;replace BK227:=bkb BK227 hb;replace BK240:=bkb BK240 hb;replace BK241:=bkb BK241 hb;replace BK252:=bkb BK252 hb;replace HB:=bst HB hb;clear hb hbox hg;have hnb153:=NB261_225.out;have hnc153:=NB225_261.out;have hnb154:=NB261_226.out;have hnc154:=NB226_261.out;have hnb155:=NB261_227.out;have hnc155:=NB227_261.out;have hnb156:=NB261_240.out;have hnc156:=NB240_261.out;have hnb157:=NB261_241.out;have hnc157:=NB241_261.out;have hnb158:=NB261_252.out;have hnc158:=NB252_261.out;have hcz159_0:w152.cell? ⟨gb261,0,none⟩=some (.int .i64 0):=(blk_cell BK261.out 0).trans rfl;have hcz159_1:w152.cell? ⟨gb261,1,none⟩=some (.int .i64 0):=(blk_cell BK261.out 1).trans rfl;have hcz159_2:w152.cell? ⟨gb261,2,none⟩=some (.int .i64 0):=(blk_cell BK261.out 2).trans rfl;have hcz159_3:w152.cell? ⟨gb261,3,none⟩=some (.int .i64 0):=(blk_cell BK261.out 3).trans rfl;have hfz159_0:=blk_frozen BK261.out 0;have hfz159_1:=blk_frozen BK261.out 1;have hfz159_2:=blk_frozen BK261.out 2;have hfz159_3:=blk_frozen BK261.out 3;have hnb160:=NB240_225.out;have hnc160:=NB225_240.out;have hnb161:=NB240_226.out;have hnc161:=NB226_240.out;have hnb162:=NB240_227.out;have hnc162:=NB227_240.out;have hnb163:=NB240_241.out;have hnc163:=NB241_240.out;have hnb164:=NB240_252.out;have hnc164:=NB252_240.out;have hcz165_0:w152.cell? ⟨gb240,0,none⟩=some (.int .i64 x241000_2):=(blk_cell BK240.out 0).trans rfl;have hcz165_1:w152.cell? ⟨gb240,1,none⟩=some (.int .i64 x241001_2):=(blk_cell BK240.out 1).trans rfl;have hcz165_2:w152.cell? ⟨gb240,2,none⟩=some (.int .i64 x241002_2):=(blk_cell BK240.out 2).trans rfl;have hcz165_3:w152.cell? ⟨gb240,3,none⟩=some (.int .i64 x241003_2):=(blk_cell BK240.out 3).trans rfl;have hfz165_0:=blk_frozen BK240.out 0;have hfz165_1:=blk_frozen BK240.out 1;have hfz165_2:=blk_frozen BK240.out 2;have hfz165_3:=blk_frozen BK240.out 3)|((with_reducible refine gate_dst (N:=56) rfl ?_);refine Kd.R_lit k67 _ 67 ?hg (N:=56) ?hd (xs:=([(⟨(rd_T67 t253 x50_3).f0,(rd_T67 t253 x50_3).f1,(rd_T67 t253 x50_3).f2,(rd_T67 t253 x50_3).f3⟩:S67),(⟨x241000_2,x241001_2,x241002_2,x241003_2⟩:S67)]:List (S67))) (inner:=[.int .i64 ((rd_T67 t253 x50_3).f0),.int .i64 ((rd_T67 t253 x50_3).f1),.int .i64 ((rd_T67 t253 x50_3).f2),.int .i64 ((rd_T67 t253 x50_3).f3),.int .i64 x241000_2,.int .i64 x241001_2,.int .i64 x241002_2,.int .i64 x241003_2]) (ok:=fun _=>True) (okp:=fun _=>True) ?hr ?hp (fun _ hk=>hk) trivial (Below.refl _ _) (Nat.le_refl _) (by simp) ?_;(case hd=>rfl);(case hg=>rfl);(case hr=>first|(go_simp;done)|(go_simp;rfl));(case hp=>exact (Reps.c4 (show Kd.M k67 _ _ _ (⟨(rd_T67 t253 x50_3).f0,(rd_T67 t253 x50_3).f1,(rd_T67 t253 x50_3).f2,(rd_T67 t253 x50_3).f3⟩:S67) [.int .i64 ((rd_T67 t253 x50_3).f0),.int .i64 ((rd_T67 t253 x50_3).f1),.int .i64 ((rd_T67 t253 x50_3).f2),.int .i64 ((rd_T67 t253 x50_3).f3)] from (k67_mkM _ _ _ (⟨(rd_T67 t253 x50_3).f0,(rd_T67 t253 x50_3).f1,(rd_T67 t253 x50_3).f2,(rd_T67 t253 x50_3).f3⟩:S67) )) (Reps.c4 (show Kd.M k67 _ _ _ (⟨x241000_2,x241001_2,x241002_2,x241003_2⟩:S67) [.int .i64 x241000_2,.int .i64 x241001_2,.int .i64 x241002_2,.int .i64 x241003_2] from (k67_mkM _ _ _ (⟨x241000_2,x241001_2,x241002_2,x241003_2⟩:S67) )) (Reps.none _ _))));intro v263 w166 ho167 hb hg_ hnew_;clear hg_ hnew_;(first|rw [← Ny262.out] at ho167|(simp only [Int.reduceToNat] at ho167;rw [← Ny262.out] at ho167));have HO264:=mk0 (Kd.R_lower (Kd.R_newB (Kd.R_newB (Kd.R_newB (Kd.R_newB (Kd.R_new' ho167 (Kd.R_lt (by (with_reducible repeat (first|apply Kd.R_alloc|apply Kd.R_drewN|apply Kd.R_drew));exact (Kd.R_mono (Kd.R_far (p:=⟨gb261,3,none⟩) (Kd.R_far (p:=⟨gb261,2,none⟩) (Kd.R_far (p:=⟨gb261,1,none⟩) (Kd.R_far (p:=⟨gb261,0,none⟩) (Kd.R_mono HO_48.out (fun k_ hk=>(⟨hk,hk.2⟩:_∧k_ ≠ gb261))) (fun _ hk=>hk.2) (.int .i64 ((rd_T67 t253 x50_3).f0))) (fun _ hk=>hk.2) (.int .i64 ((rd_T67 t253 x50_3).f1))) (fun _ hk=>hk.2) (.int .i64 ((rd_T67 t253 x50_3).f2))) (fun _ hk=>hk.2) (.int .i64 ((rd_T67 t253 x50_3).f3))) (fun _ h_=>h_.1))))) (g:=gb240) (o:=.cells #[.int .i64 x241000_2,.int .i64 x241001_2,.int .i64 x241002_2,.int .i64 x241003_2] 67 (0,0)) (by (iterate 4 refine blk_far ?_ NB240_261.out _);exact BK240.out)) (g:=gb241) (o:=.cells #[.int .i64 x242000_2,.int .i64 x242001_2,.int .i64 x242002_2,.int .i64 x242003_2] 67 (0,0)) (by (iterate 4 refine blk_far ?_ NB241_261.out _);exact BK241.out)) (g:=gb252) (o:=.cells #[.int .i64 x253000_3,.int .i64 x253001_3,.int .i64 x253002_3,.int .i64 x253003_3] 67 (0,0)) (by (iterate 4 refine blk_far ?_ NB252_261.out _);exact BK252.out)) (g:=gb261) (o:=.cells #[.int .i64 ((rd_T67 t253 x50_3).f0),.int .i64 ((rd_T67 t253 x50_3).f1),.int .i64 ((rd_T67 t253 x50_3).f2),.int .i64 ((rd_T67 t253 x50_3).f3)] 67 (0,0)) (by refine blk_put (cs:=#[.int .i64 ((rd_T67 t253 x50_3).f0),.int .i64 ((rd_T67 t253 x50_3).f1),.int .i64 ((rd_T67 t253 x50_3).f2),.int .i64 0]) ?_ 3 _ rfl;refine blk_put (cs:=#[.int .i64 ((rd_T67 t253 x50_3).f0),.int .i64 ((rd_T67 t253 x50_3).f1),.int .i64 0,.int .i64 0]) ?_ 2 _ rfl;refine blk_put (cs:=#[.int .i64 ((rd_T67 t253 x50_3).f0),.int .i64 0,.int .i64 0,.int .i64 0]) ?_ 1 _ rfl;refine blk_put (cs:=#[.int .i64 0,.int .i64 0,.int .i64 0,.int .i64 0]) ?_ 0 _ rfl;exact BK261.out)) (below_size (by repeat (with_reducible first|exact HB.out|refine below_set ?_ GE225.out|refine below_set ?_ GE226.out|refine below_set ?_ GE227.out|refine below_set ?_ GE240.out|refine below_set ?_ GE241.out|refine below_set ?_ GE252.out|refine below_set ?_ GE261.out))));replace HO_48:=mk0 (Kd.R_elder' (by (with_reducible repeat (first|apply Kd.R_alloc|apply Kd.R_drewN|apply Kd.R_drew));exact (Kd.R_mono (Kd.R_far (p:=⟨gb261,3,none⟩) (Kd.R_far (p:=⟨gb261,2,none⟩) (Kd.R_far (p:=⟨gb261,1,none⟩) (Kd.R_far (p:=⟨gb261,0,none⟩) (Kd.R_mono HO_48.out (fun k_ hk=>(⟨hk,hk.2⟩:_∧k_ ≠ gb261))) (fun _ hk=>hk.2) (.int .i64 ((rd_T67 t253 x50_3).f0))) (fun _ hk=>hk.2) (.int .i64 ((rd_T67 t253 x50_3).f1))) (fun _ hk=>hk.2) (.int .i64 ((rd_T67 t253 x50_3).f2))) (fun _ hk=>hk.2) (.int .i64 ((rd_T67 t253 x50_3).f3))) (fun _ h_=>h_.1))) (Kd.R_base ho167) hb);replace BK225:=mk0 (blk_below (g:=gb225) (o:=.cells #[.int .i64 a0_0,.int .i64 a0_1,.int .i64 a0_2,.int .i64 a0_3] 23 (0,0)) (by (iterate 4 refine blk_far ?_ NB225_261.out _);exact BK225.out) hb);replace BK226:=mk0 (blk_below (g:=gb226) (o:=.cells #[.int .i64 a1_0,.int .i64 a1_1,.int .i64 a1_2,.int .i64 a1_3] 23 (0,0)) (by (iterate 4 refine blk_far ?_ NB226_261.out _);exact BK226.out) hb);replace BK227:=mk0 (blk_below (g:=gb227) (o:=.cells #[.int .i64 0,.int .i64 0,.int .i64 0,.int .i64 0] 23 (0,0)) (by (iterate 4 refine blk_far ?_ NB227_261.out _);exact BK227.out) hb);replace BK240:=mk0 (blk_below (g:=gb240) (o:=.cells #[.int .i64 x241000_2,.int .i64 x241001_2,.int .i64 x241002_2,.int .i64 x241003_2] 67 (0,0)) (by (iterate 4 refine blk_far ?_ NB240_261.out _);exact BK240.out) hb);replace BK241:=mk0 (blk_below (g:=gb241) (o:=.cells #[.int .i64 x242000_2,.int .i64 x242001_2,.int .i64 x242002_2,.int .i64 x242003_2] 67 (0,0)) (by (iterate 4 refine blk_far ?_ NB241_261.out _);exact BK241.out) hb);replace BK252:=mk0 (blk_below (g:=gb252) (o:=.cells #[.int .i64 x253000_3,.int .i64 x253001_3,.int .i64 x253002_3,.int .i64 x253003_3] 67 (0,0)) (by (iterate 4 refine blk_far ?_ NB252_261.out _);exact BK252.out) hb);replace BK261:=mk0 (blk_below (g:=gb261) (o:=.cells #[.int .i64 ((rd_T67 t253 x50_3).f0),.int .i64 ((rd_T67 t253 x50_3).f1),.int .i64 ((rd_T67 t253 x50_3).f2),.int .i64 ((rd_T67 t253 x50_3).f3)] 67 (0,0)) (by refine blk_put (cs:=#[.int .i64 ((rd_T67 t253 x50_3).f0),.int .i64 ((rd_T67 t253 x50_3).f1),.int .i64 ((rd_T67 t253 x50_3).f2),.int .i64 0]) ?_ 3 _ rfl;refine blk_put (cs:=#[.int .i64 ((rd_T67 t253 x50_3).f0),.int .i64 ((rd_T67 t253 x50_3).f1),.int .i64 0,.int .i64 0]) ?_ 2 _ rfl;refine blk_put (cs:=#[.int .i64 ((rd_T67 t253 x50_3).f0),.int .i64 0,.int .i64 0,.int .i64 0]) ?_ 1 _ rfl;refine blk_put (cs:=#[.int .i64 0,.int .i64 0,.int .i64 0,.int .i64 0]) ?_ 0 _ rfl;exact BK261.out) hb);replace HB:=mk0 (below_step (by repeat (with_reducible first|exact HB.out|refine below_set ?_ GE225.out|refine below_set ?_ GE226.out|refine below_set ?_ GE227.out|refine below_set ?_ GE240.out|refine below_set ?_ GE241.out|refine below_set ?_ GE252.out|refine below_set ?_ GE261.out)) hb);clear hb ho167;obtain ⟨Ao168,co168,eo168⟩:=Kd.R_slice HO264.out;subst eo168)|((with_reducible refine gate_callee (f:=54) rfl ?_);refine goesL_ (some 57) rfl rfl Try.func54 (by kernel_rfl) rfl #[.slice Ao168 y262.length co168] rfl (by (try simp only [List.map_toArray,List.map_cons,List.map_nil]);first|done|rfl|(simp only [List.length_drop,List.length_take];rfl)) ?_;(with_reducible refine (norm_product.calls k3 _ _ y262 t265 t266 t267 t268 _ ?side1 ?side2 A114.out).mono ?_);(case side1=>repeat (first|exact (Kd.R_reads' HO264.out).2.2|(with_reducible refine Kd.C_alloc ?_ _)|(with_reducible refine Kd.C_drewN ?_ _)|(with_reducible refine Kd.C_drew ?_)));(case side2=>exact (Kd.R_reads' HO264.out).2.1);rintro e w169 ⟨rfl,hb⟩;refine ⟨_,rfl,?_⟩;replace HO_48:=rbl HO_48 hb;replace HO264:=rbl HO264 hb;replace BK225:=bkb BK225 hb;replace BK226:=bkb BK226 hb;replace BK227:=bkb BK227 hb;replace BK240:=bkb BK240 hb;replace BK241:=bkb BK241 hb;replace BK252:=bkb BK252 hb;replace BK261:=bkb BK261 hb;replace HB:=bst HB hb;(try clear hb);(try clear hk))|((with_reducible refine gate_dst (N:=14) rfl ?_);refine box_event ?hg (N:=14) ?hd (cs:=#[.int .i64 0,.int .i64 0,.int .i64 0,.int .i64 0]) (t:=67) ?hr ?_;(case hd=>rfl);(case hg=>rfl);(case hr=>first|(go_simp;done)|(go_simp;rfl));intro gb269 hg w170 hbox hb;have BK269:=mk0 (hbox);have GW269:=szw hg HB;have GE269:=GW269;have NB225_269:=nlt hg BK225;have NB269_225:=ngt hg BK225;have NB226_269:=nlt hg BK226;have NB269_226:=ngt hg BK226;have NB227_269:=nlt hg BK227;have NB269_227:=ngt hg BK227;have NB240_269:=nlt hg BK240;have NB269_240:=ngt hg BK240;have NB241_269:=nlt hg BK241;have NB269_241:=ngt hg BK241;have NB252_269:=nlt hg BK252;have NB269_252:=ngt hg BK252;have NB261_269:=nlt hg BK261;have NB269_261:=ngt hg BK261;replace HO_48:=mk0 (Kd.R_below (Kd.R_elderB HO_48.out gb269 (Nat.le_of_eq hg.symm)) hb);replace HO264:=mk0 (Kd.R_below (Kd.R_elderB HO264.out gb269 (Nat.le_of_eq hg.symm)) hb);replace BK225:=bkb BK225 hb;replace BK226:=bkb BK226 hb;replace BK227:=bkb BK227 hb;replace BK240:=bkb BK240 hb;replace BK241:=bkb BK241 hb;replace BK252:=bkb BK252 hb;replace BK261:=bkb BK261 hb;replace HB:=bst HB hb;clear hb hbox hg;have hnb171:=NB269_225.out;have hnc171:=NB225_269.out;have hnb172:=NB269_226.out;have hnc172:=NB226_269.out;have hnb173:=NB269_227.out;have hnc173:=NB227_269.out;have hnb174:=NB269_240.out;have hnc174:=NB240_269.out;have hnb175:=NB269_241.out;have hnc175:=NB241_269.out;have hnb176:=NB269_252.out;have hnc176:=NB252_269.out;have hnb177:=NB269_261.out;have hnc177:=NB261_269.out;have hcz178_0:w170.cell? ⟨gb269,0,none⟩=some (.int .i64 0):=(blk_cell BK269.out 0).trans rfl;have hcz178_1:w170.cell? ⟨gb269,1,none⟩=some (.int .i64 0):=(blk_cell BK269.out 1).trans rfl;have hcz178_2:w170.cell? ⟨gb269,2,none⟩=some (.int .i64 0):=(blk_cell BK269.out 2).trans rfl;have hcz178_3:w170.cell? ⟨gb269,3,none⟩=some (.int .i64 0):=(blk_cell BK269.out 3).trans rfl;have hfz178_0:=blk_frozen BK269.out 0;have hfz178_1:=blk_frozen BK269.out 1;have hfz178_2:=blk_frozen BK269.out 2;have hfz178_3:=blk_frozen BK269.out 3))
              have n0_:Aside0 (Kd.R k67 67 ((((w170.setCell ⟨gb269,0,none⟩ (.int .i64 t265)).setCell ⟨gb269,1,none⟩ (.int .i64 t266)).setCell ⟨gb269,2,none⟩ (.int .i64 t267)).setCell ⟨gb269,3,none⟩ (.int .i64 t268)) w.heap.size (fun k_=>some k_ ≠ (.slice Ao168 y262.length co168:Value).ownBlock∧k_ ≠ gb240∧k_ ≠ gb241∧k_ ≠ gb252∧k_ ≠ gb261∧k_ ≠ gb269) (.slice (some ad260) t253.length co110) t253):=⟨by (with_reducible repeat (first|apply Kd.R_alloc|apply Kd.R_drewN|apply Kd.R_drew));exact Kd.R_mono (Kd.R_far (p:=⟨gb269,3,none⟩) (Kd.R_far (p:=⟨gb269,2,none⟩) (Kd.R_far (p:=⟨gb269,1,none⟩) (Kd.R_far (p:=⟨gb269,0,none⟩) (Kd.R_mono HO_48.out (fun k_ hk=>(⟨hk,hk.2⟩:_∧k_ ≠ gb269))) (fun _ hk=>hk.2) (.int .i64 t265)) (fun _ hk=>hk.2) (.int .i64 t266)) (fun _ hk=>hk.2) (.int .i64 t267)) (fun _ hk=>hk.2) (.int .i64 t268)) (fun _ hk=>⟨hk.1.1.2,⟨hk.1.1.1.1.1,⟨hk.1.1.1.1.2.1,⟨hk.1.1.1.1.2.2,⟨hk.1.1.1.2,hk.1.2⟩⟩⟩⟩⟩)⟩
              have n1_:Aside0 (Kd.R k67 67 ((((w170.setCell ⟨gb269,0,none⟩ (.int .i64 t265)).setCell ⟨gb269,1,none⟩ (.int .i64 t266)).setCell ⟨gb269,2,none⟩ (.int .i64 t267)).setCell ⟨gb269,3,none⟩ (.int .i64 t268)) w.heap.size (fun k_=>some k_ ≠ (.slice (some ad260) t253.length co110:Value).ownBlock∧k_ ≠ gb240∧k_ ≠ gb241∧k_ ≠ gb252∧k_ ≠ gb261∧k_ ≠ gb269) (.slice Ao168 y262.length co168) y262):=⟨by (with_reducible repeat (first|apply Kd.R_alloc|apply Kd.R_drewN|apply Kd.R_drew));exact Kd.R_mono (Kd.R_far (p:=⟨gb269,3,none⟩) (Kd.R_far (p:=⟨gb269,2,none⟩) (Kd.R_far (p:=⟨gb269,1,none⟩) (Kd.R_far (p:=⟨gb269,0,none⟩) (Kd.R_mono HO264.out (fun k_ hk=>(⟨hk,hk.2⟩:_∧k_ ≠ gb269))) (fun _ hk=>hk.2) (.int .i64 t265)) (fun _ hk=>hk.2) (.int .i64 t266)) (fun _ hk=>hk.2) (.int .i64 t267)) (fun _ hk=>hk.2) (.int .i64 t268)) (fun _ hk=>⟨hk.1.1.1.1.1.1.2,⟨hk.1.1.1.1.1.2,⟨hk.1.1.1.1.2,⟨hk.1.1.1.2,⟨hk.1.1.2,hk.1.2⟩⟩⟩⟩⟩)⟩
              have n2_:Aside0 (((((w170.setCell ⟨gb269,0,none⟩ (.int .i64 t265)).setCell ⟨gb269,1,none⟩ (.int .i64 t266)).setCell ⟨gb269,2,none⟩ (.int .i64 t267)).setCell ⟨gb269,3,none⟩ (.int .i64 t268)).heap[gb225]?=some (.cells #[.int .i64 a0_0,.int .i64 a0_1,.int .i64 a0_2,.int .i64 a0_3] 23 (0,0))):=⟨by (iterate 4 refine blk_far ?_ NB225_269.out _);exact BK225.out⟩
              have n3_:Aside0 (((((w170.setCell ⟨gb269,0,none⟩ (.int .i64 t265)).setCell ⟨gb269,1,none⟩ (.int .i64 t266)).setCell ⟨gb269,2,none⟩ (.int .i64 t267)).setCell ⟨gb269,3,none⟩ (.int .i64 t268)).heap[gb226]?=some (.cells #[.int .i64 a1_0,.int .i64 a1_1,.int .i64 a1_2,.int .i64 a1_3] 23 (0,0))):=⟨by (iterate 4 refine blk_far ?_ NB226_269.out _);exact BK226.out⟩
              have n4_:Aside0 (((((w170.setCell ⟨gb269,0,none⟩ (.int .i64 t265)).setCell ⟨gb269,1,none⟩ (.int .i64 t266)).setCell ⟨gb269,2,none⟩ (.int .i64 t267)).setCell ⟨gb269,3,none⟩ (.int .i64 t268)).heap[gb227]?=some (.cells #[.int .i64 0,.int .i64 0,.int .i64 0,.int .i64 0] 23 (0,0))):=⟨by (iterate 4 refine blk_far ?_ NB227_269.out _);exact BK227.out⟩
              have n5_:Aside0 (((((w170.setCell ⟨gb269,0,none⟩ (.int .i64 t265)).setCell ⟨gb269,1,none⟩ (.int .i64 t266)).setCell ⟨gb269,2,none⟩ (.int .i64 t267)).setCell ⟨gb269,3,none⟩ (.int .i64 t268)).heap[gb240]?=some (.cells #[.int .i64 x241000_2,.int .i64 x241001_2,.int .i64 x241002_2,.int .i64 x241003_2] 67 (0,0))):=⟨by (iterate 4 refine blk_far ?_ NB240_269.out _);exact BK240.out⟩
              have n6_:Aside0 (((((w170.setCell ⟨gb269,0,none⟩ (.int .i64 t265)).setCell ⟨gb269,1,none⟩ (.int .i64 t266)).setCell ⟨gb269,2,none⟩ (.int .i64 t267)).setCell ⟨gb269,3,none⟩ (.int .i64 t268)).heap[gb241]?=some (.cells #[.int .i64 x242000_2,.int .i64 x242001_2,.int .i64 x242002_2,.int .i64 x242003_2] 67 (0,0))):=⟨by (iterate 4 refine blk_far ?_ NB241_269.out _);exact BK241.out⟩
              have n7_:Aside0 (((((w170.setCell ⟨gb269,0,none⟩ (.int .i64 t265)).setCell ⟨gb269,1,none⟩ (.int .i64 t266)).setCell ⟨gb269,2,none⟩ (.int .i64 t267)).setCell ⟨gb269,3,none⟩ (.int .i64 t268)).heap[gb252]?=some (.cells #[.int .i64 x253000_3,.int .i64 x253001_3,.int .i64 x253002_3,.int .i64 x253003_3] 67 (0,0))):=⟨by (iterate 4 refine blk_far ?_ NB252_269.out _);exact BK252.out⟩
              have n8_:Aside0 (((((w170.setCell ⟨gb269,0,none⟩ (.int .i64 t265)).setCell ⟨gb269,1,none⟩ (.int .i64 t266)).setCell ⟨gb269,2,none⟩ (.int .i64 t267)).setCell ⟨gb269,3,none⟩ (.int .i64 t268)).heap[gb261]?=some (.cells #[.int .i64 ((rd_T67 t253 x50_3).f0),.int .i64 ((rd_T67 t253 x50_3).f1),.int .i64 ((rd_T67 t253 x50_3).f2),.int .i64 ((rd_T67 t253 x50_3).f3)] 67 (0,0))):=⟨by (iterate 4 refine blk_far ?_ NB261_269.out _);exact BK261.out⟩
              have n9_:Aside0 (((((w170.setCell ⟨gb269,0,none⟩ (.int .i64 t265)).setCell ⟨gb269,1,none⟩ (.int .i64 t266)).setCell ⟨gb269,2,none⟩ (.int .i64 t267)).setCell ⟨gb269,3,none⟩ (.int .i64 t268)).heap[gb269]?=some (.cells #[.int .i64 t265,.int .i64 t266,.int .i64 t267,.int .i64 t268] 67 (0,0))):=⟨by refine blk_put (cs:=#[.int .i64 t265,.int .i64 t266,.int .i64 t267,.int .i64 0]) ?_ 3 _ rfl;refine blk_put (cs:=#[.int .i64 t265,.int .i64 t266,.int .i64 0,.int .i64 0]) ?_ 2 _ rfl;refine blk_put (cs:=#[.int .i64 t265,.int .i64 0,.int .i64 0,.int .i64 0]) ?_ 1 _ rfl;refine blk_put (cs:=#[.int .i64 0,.int .i64 0,.int .i64 0,.int .i64 0]) ?_ 0 _ rfl;exact BK269.out⟩
              have n10_:Aside0 (Below w.heap.size w ((((w170.setCell ⟨gb269,0,none⟩ (.int .i64 t265)).setCell ⟨gb269,1,none⟩ (.int .i64 t266)).setCell ⟨gb269,2,none⟩ (.int .i64 t267)).setCell ⟨gb269,3,none⟩ (.int .i64 t268))):=⟨by repeat (first|(with_reducible first|exact HB.out|apply below_alloc|apply pw_below_drewN|apply below_drew1|refine below_set ?_ GE225.out|refine below_set ?_ GE226.out|refine below_set ?_ GE227.out|refine below_set ?_ GE240.out|refine below_set ?_ GE241.out|refine below_set ?_ GE252.out|refine below_set ?_ GE261.out|refine below_set ?_ GE269.out)|exact HB.out)⟩
              (try clear HO_48);(try clear HO264);(try clear BK225);(try clear BK226);(try clear BK227);(try clear BK240);(try clear BK241);(try clear BK252);(try clear BK261);(try clear BK269);(try clear HB);generalize ((((w170.setCell ⟨gb269,0,none⟩ (.int .i64 t265)).setCell ⟨gb269,1,none⟩ (.int .i64 t266)).setCell ⟨gb269,2,none⟩ (.int .i64 t267)).setCell ⟨gb269,3,none⟩ (.int .i64 t268))=w179 at n0_ n1_ n2_ n3_ n4_ n5_ n6_ n7_ n8_ n9_ n10_ ⊢;have HO_48:=n0_;have HO264:=n1_;have BK225:=n2_;have BK226:=n3_;have BK227:=n4_;have BK240:=n5_;have BK241:=n6_;have BK252:=n7_;have BK261:=n8_;have BK269:=n9_;have HB:=n10_;clear n0_ n1_ n2_ n3_ n4_ n5_ n6_ n7_ n8_ n9_ n10_;replace HO_48:=rdr HO_48;replace HO264:=rdr HO264;replace BK225:=bdr BK225;replace BK226:=bdr BK226;replace BK227:=bdr BK227;replace BK240:=bdr BK240;replace BK241:=bdr BK241;replace BK252:=bdr BK252;replace BK261:=bdr BK261;replace BK269:=bdr BK269;replace HB:=hdr HB;refine start_ (n:=4) (S:=fun w'=>w'.cell? ⟨gb269,0,none⟩=some (.int .i64 t265)∧w'.cell? ⟨gb269,1,none⟩=some (.int .i64 t266)∧w'.cell? ⟨gb269,2,none⟩=some (.int .i64 t267)∧w'.cell? ⟨gb269,3,none⟩=some (.int .i64 t268)∧w'.cell? ⟨gb252,0,none⟩=some (.int .i64 x253000_3)∧w'.cell? ⟨gb252,1,none⟩=some (.int .i64 x253001_3)∧w'.cell? ⟨gb252,2,none⟩=some (.int .i64 x253002_3)∧w'.cell? ⟨gb252,3,none⟩=some (.int .i64 x253003_3)) (ds:=[]) #[false,false,false,false] (by kernel_rfl) rfl rfl ⟨(blk_cell BK269.out 0).trans rfl,(blk_cell BK269.out 1).trans rfl,(blk_cell BK269.out 2).trans rfl,(blk_cell BK269.out 3).trans rfl,(blk_cell BK252.out 0).trans rfl,(blk_cell BK252.out 1).trans rfl,(blk_cell BK252.out 2).trans rfl,(blk_cell BK252.out 3).trans rfl⟩ (fun hHeld=>?_);generalize w179.drew=w180 at HO_48 HO264 BK225 BK226 BK227 BK240 BK241 BK252 BK261 BK269 HB hHeld ⊢;refine pure_ (i:=0) (N:=some 58) (v:=?_) (a':=?_) #[true,false,false,false] rfl rfl (by kernel_rfl) (fun _ _ _ h=>h) (Or.inl ⟨by rfl,?_⟩) ?_ ?_;rotate_left
              ·
               intro w';go_simp;with_reducible rfl
              rotate_left
              ·
               simp only [Act.put,List.setIfInBounds_toArray,List.set_cons_zero,List.set_cons_succ,i64_w,i32_w];rfl
              refine pure_ (i:=1) (N:=some 59) (v:=?_) (a':=?_) #[true,true,false,false] rfl rfl (by kernel_rfl) (fun _ _ _ h=>h) (Or.inl ⟨by rfl,?_⟩) ?_ ?_;rotate_left
              ·
               intro w';go_simp;with_reducible rfl
              rotate_left
              ·
               simp only [Act.put,List.setIfInBounds_toArray,List.set_cons_zero,List.set_cons_succ,i64_w,i32_w];rfl
              refine one_ (i:=2) (N:=some 60) #[true,true,true,false] rfl rfl (by kernel_rfl) (by decide) (fun K hK=>?_);refine goes_ Try.func55 (by kernel_rfl) rfl #[.slice (some ⟨gb269,0,none⟩) [t265,t266,t267,t268].length 4,.slice (some ⟨gb252,0,none⟩) [x253000_3,x253001_3,x253002_3,x253003_3].length 4] (by rfl) rfl rfl (by (try simp only [List.map_toArray,List.map_cons,List.map_nil]);first|done|(rw [show [t265,t266,t267,t268].length=4 from rfl,show [x253000_3,x253001_3,x253002_3,x253003_3].length=4 from rfl] <;> rfl)|rfl|(simp only [List.length_drop,List.length_take];rfl)) ?_;with_reducible refine (slices_Compare_int_int.calls k3 _ _ [t265,t266,t267,t268] _ _ [x253000_3,x253001_3,x253002_3,x253003_3] t270 _ ?side1 ?side2 ?side3 ?side4 A115.out).mono ?_
              (case side1=>exact Go.Proofs.MyWords.C_box (t:=67) (cs:=#[.int .i64 t265,.int .i64 t266,.int .i64 t267,.int .i64 t268]) BK269.out (by rfl) (Nat.le_of_ble_eq_true rfl));(case side2=>exact Nat.le_refl _);(case side3=>exact Go.Proofs.MyWords.C_box (t:=67) (cs:=#[.int .i64 x253000_3,.int .i64 x253001_3,.int .i64 x253002_3,.int .i64 x253003_3]) BK252.out (by rfl) (Nat.le_of_ble_eq_true rfl));(case side4=>exact Nat.le_refl _);rintro e w' ⟨rfl,⟨nd,rfl⟩⟩;refine ⟨_,rfl,?_⟩;refine hK.out _ _ ⟨(blk_cell BK269.out 0).trans rfl,(blk_cell BK269.out 1).trans rfl,(blk_cell BK269.out 2).trans rfl,(blk_cell BK269.out 3).trans rfl,(blk_cell BK252.out 0).trans rfl,(blk_cell BK252.out 1).trans rfl,(blk_cell BK252.out 2).trans rfl,(blk_cell BK252.out 3).trans rfl⟩ (fun hHeld=>?_);clear hK K;refine norm_ (a':=?_) ?_ ?_;rotate_left
              ·
               show Act.put _ (some 60) _=_;simp only [Act.put,List.setIfInBounds_toArray,List.set_cons_zero,List.set_cons_succ,i64_w,i32_w];rfl
              refine pure_ (i:=3) (N:=some 61) (v:=?_) (a':=?_) #[true,true,true,true] rfl rfl (by kernel_rfl) (fun _ _ _ h=>h) (Or.inl ⟨by rfl,?_⟩) ?_ ?_;rotate_left
              ·
               intro w';go_simp;with_reducible rfl
              rotate_left
              ·
               simp only [Act.put,List.setIfInBounds_toArray,List.set_cons_zero,List.set_cons_succ,i64_w,i32_w];rfl
              refine done_ (by kernel_rfl) ?_;try go_wp2
              go_roundg k3
              case measure=>have:=HJ6.out;have:=HK2.out;have:=HK3.out;omega
              case rel=>exact ⟨(wrap64 (x50_3 + 1)),(x253000_3),(x253001_3),(x253002_3),(x253003_3),(by first|rfl|(simp;done)|(simp [*];done)),H',⟨by have:=HJ6.out;have:=HK2.out;have:=HK3.out;omega⟩,⟨by (with_reducible repeat (first|apply Kd.R_alloc|apply Kd.R_drewN|apply Kd.R_drew));exact Kd.R_mono HO_48.out (fun _ hk=>⟨hk.2.1,⟨hk.2.2.1,hk.2.2.2.1⟩⟩)⟩,⟨by exact BK225.out⟩,⟨by exact BK226.out⟩,⟨by exact BK227.out⟩,⟨by exact BK240.out⟩,⟨by exact BK241.out⟩,⟨by exact BK252.out⟩,⟨by repeat (first|(with_reducible first|exact HB.out|apply below_alloc|apply pw_below_drewN|apply below_drew1|refine below_set ?_ GE225.out|refine below_set ?_ GE226.out|refine below_set ?_ GE227.out|refine below_set ?_ GE240.out|refine below_set ?_ GE241.out|refine below_set ?_ GE252.out|refine below_set ?_ GE261.out|refine below_set ?_ GE269.out)|exact HB.out)⟩⟩
            ·
             rw [if_neg c113] at H;exact absurd H (by simp)
           ·
            rw [if_neg c112] at H;exact absurd H (by simp)
          ·
           rw [if_neg c111] at H;have c111b0:decide (x50_3 < (t253.length:Int))=false:=decide_eq_false c111;clear c111;replace H:=Option.bind_eq_some_iff.mp H;obtain ⟨⟨t256,t257,t258,t259⟩,A1810,H⟩:=H;(try dsimp only at H);have A181:=mk0 A1810;clear A1810;simp only [Option.some.injEq,Prod.mk.injEq] at H;obtain ⟨rfl,rfl,rfl,rfl,rfl⟩:=H;have hnb182:=NB252_225.out;have hnc182:=NB225_252.out;have hnb183:=NB252_226.out;have hnc183:=NB226_252.out;have hnb184:=NB252_227.out;have hnc184:=NB227_252.out;have hnb185:=NB252_240.out;have hnc185:=NB240_252.out;have hnb186:=NB252_241.out;have hnc186:=NB241_252.out;have hcz187_0:wr.cell? ⟨gb252,0,none⟩=some (.int .i64 x253000_3):=(blk_cell BK252.out 0).trans rfl;have hcz187_1:wr.cell? ⟨gb252,1,none⟩=some (.int .i64 x253001_3):=(blk_cell BK252.out 1).trans rfl;have hcz187_2:wr.cell? ⟨gb252,2,none⟩=some (.int .i64 x253002_3):=(blk_cell BK252.out 2).trans rfl;have hcz187_3:wr.cell? ⟨gb252,3,none⟩=some (.int .i64 x253003_3):=(blk_cell BK252.out 3).trans rfl;have hfz187_0:=blk_frozen BK252.out 0;have hfz187_1:=blk_frozen BK252.out 1;have hfz187_2:=blk_frozen BK252.out 2;have hfz187_3:=blk_frozen BK252.out 3;go_wp2_with (first|((with_reducible refine gate_callee (f:=50) rfl ?_);refine goesL_ (some 65) rfl rfl Try.func50 (by kernel_rfl) rfl #[.agg #[.int .i64 x253000_3,.int .i64 x253001_3,.int .i64 x253002_3,.int .i64 x253003_3]] rfl (by (try simp only [List.map_toArray,List.map_cons,List.map_nil]);first|done|rfl|(simp only [List.length_drop,List.length_take];rfl)) ?_;(with_reducible refine (norm_quat_api.calls x253000_3 x253001_3 x253002_3 x253003_3 t256 t257 t258 t259 _ A181.out).mono ?_);rintro e w188 ⟨rfl,hb⟩;refine ⟨_,rfl,?_⟩;replace HO_48:=rbl HO_48 hb;replace BK225:=bkb BK225 hb;replace BK226:=bkb BK226 hb;replace BK227:=bkb BK227 hb;replace BK240:=bkb BK240 hb;replace BK241:=bkb BK241 hb;replace BK252:=bkb BK252 hb;replace HB:=bst HB hb;(try clear hb);have hnb189:=NB227_225.out;have hnc189:=NB225_227.out;have hnb190:=NB227_226.out;have hnc190:=NB226_227.out;have hnb191:=NB227_240.out;have hnc191:=NB240_227.out;have hnb192:=NB227_241.out;have hnc192:=NB241_227.out;have hcz193_0:w188.cell? ⟨gb227,0,none⟩=some (.int .i64 0):=(blk_cell BK227.out 0).trans rfl;have hcz193_1:w188.cell? ⟨gb227,1,none⟩=some (.int .i64 0):=(blk_cell BK227.out 1).trans rfl;have hcz193_2:w188.cell? ⟨gb227,2,none⟩=some (.int .i64 0):=(blk_cell BK227.out 2).trans rfl;have hcz193_3:w188.cell? ⟨gb227,3,none⟩=some (.int .i64 0):=(blk_cell BK227.out 3).trans rfl;have hfz193_0:=blk_frozen BK227.out 0;have hfz193_1:=blk_frozen BK227.out 1;have hfz193_2:=blk_frozen BK227.out 2;have hfz193_3:=blk_frozen BK227.out 3));refine bodyPost_ret (results_ct rfl _ _ gb227 23 #[.int .i64 t256,.int .i64 t257,.int .i64 t258,.int .i64 t259] (0,0) _ rfl (by refine blk_put (cs:=#[.int .i64 t256,.int .i64 t257,.int .i64 t258,.int .i64 0]) ?_ 3 _ rfl;refine blk_put (cs:=#[.int .i64 t256,.int .i64 t257,.int .i64 0,.int .i64 0]) ?_ 2 _ rfl;refine blk_put (cs:=#[.int .i64 t256,.int .i64 0,.int .i64 0,.int .i64 0]) ?_ 1 _ rfl;refine blk_put (cs:=#[.int .i64 0,.int .i64 0,.int .i64 0,.int .i64 0]) ?_ 0 _ rfl;exact BK227.out) Try.underlying23 rfl (by kernel_rfl)) rfl ?_;exact ⟨by first|rfl|(simp [errW_none,errW_some] <;> rfl)|(simp [*,errW_none,errW_some] <;> rfl),by repeat (first|(with_reducible first|exact HB.out|apply below_alloc|apply pw_below_drewN|apply below_drew1|refine below_set ?_ GE225.out|refine below_set ?_ GE226.out|refine below_set ?_ GE227.out|refine below_set ?_ GE240.out|refine below_set ?_ GE241.out|refine below_set ?_ GE252.out)|exact HB.out)⟩
 ·
  rw [if_neg c4] at H;have c4b0:(t231 == 0)=false:=beq_eq_false_iff_ne.mpr c4;have c4b1:(t231 != 0)=true:=bne_iff_ne.mpr c4;simp only [Option.some.injEq,Prod.mk.injEq] at H;obtain ⟨rfl,rfl,rfl,rfl,rfl⟩:=H;go_enter Try.func21,Try.ntmps21;go_wp2_with (first|((with_reducible refine gate_dst (N:=2) rfl ?_);refine box_event ?hg (N:=2) ?hd (cs:=#[.int .i64 a0_0,.int .i64 a0_1,.int .i64 a0_2,.int .i64 a0_3]) (t:=23) ?hr ?_;(case hd=>rfl);(case hg=>rfl);(case hr=>first|(go_simp;done)|(go_simp;rfl));intro gb225 hg w194 hbox hb;have BK225:=mk0 (hbox);have GW225:=szw hg HB;have GE225:=GW225;replace HB:=bst HB hb;clear hb hbox hg)|((with_reducible refine gate_dst (N:=3) rfl ?_);refine box_event ?hg (N:=3) ?hd (cs:=#[.int .i64 a1_0,.int .i64 a1_1,.int .i64 a1_2,.int .i64 a1_3]) (t:=23) ?hr ?_;(case hd=>rfl);(case hg=>rfl);(case hr=>first|(go_simp;done)|(go_simp;rfl));intro gb226 hg w195 hbox hb;have BK226:=mk0 (hbox);have GW226:=szw hg HB;have GE226:=GW226;have NB225_226:=nlt hg BK225;have NB226_225:=ngt hg BK225;replace BK225:=bkb BK225 hb;replace HB:=bst HB hb;clear hb hbox hg)|((with_reducible refine gate_dst (N:=4) rfl ?_);refine box_event ?hg (N:=4) ?hd (cs:=#[.int .i64 0,.int .i64 0,.int .i64 0,.int .i64 0]) (t:=23) ?hr ?_;(case hd=>rfl);(case hg=>rfl);(case hr=>first|(go_simp;done)|(go_simp;rfl));intro gb227 hg w196 hbox hb;have BK227:=mk0 (hbox);have GW227:=szw hg HB;have GE227:=GW227;have NB225_227:=nlt hg BK225;have NB227_225:=ngt hg BK225;have NB226_227:=nlt hg BK226;have NB227_226:=ngt hg BK226;replace BK225:=bkb BK225 hb;replace BK226:=bkb BK226 hb;replace HB:=bst HB hb;clear hb hbox hg;have hnb197:=NB225_226.out;have hnc197:=NB226_225.out;have hnb198:=NB225_227.out;have hnc198:=NB227_225.out;have hcz199_0:w196.cell? ⟨gb225,0,none⟩=some (.int .i64 a0_0):=(blk_cell BK225.out 0).trans rfl;have hcz199_1:w196.cell? ⟨gb225,1,none⟩=some (.int .i64 a0_1):=(blk_cell BK225.out 1).trans rfl;have hcz199_2:w196.cell? ⟨gb225,2,none⟩=some (.int .i64 a0_2):=(blk_cell BK225.out 2).trans rfl;have hcz199_3:w196.cell? ⟨gb225,3,none⟩=some (.int .i64 a0_3):=(blk_cell BK225.out 3).trans rfl;have hfz199_0:=blk_frozen BK225.out 0;have hfz199_1:=blk_frozen BK225.out 1;have hfz199_2:=blk_frozen BK225.out 2;have hfz199_3:=blk_frozen BK225.out 3;have hnb200:=NB226_227.out;have hnc200:=NB227_226.out;have hcz201_0:w196.cell? ⟨gb226,0,none⟩=some (.int .i64 a1_0):=(blk_cell BK226.out 0).trans rfl;have hcz201_1:w196.cell? ⟨gb226,1,none⟩=some (.int .i64 a1_1):=(blk_cell BK226.out 1).trans rfl;have hcz201_2:w196.cell? ⟨gb226,2,none⟩=some (.int .i64 a1_2):=(blk_cell BK226.out 2).trans rfl;have hcz201_3:w196.cell? ⟨gb226,3,none⟩=some (.int .i64 a1_3):=(blk_cell BK226.out 3).trans rfl;have hfz201_0:=blk_frozen BK226.out 0;have hfz201_1:=blk_frozen BK226.out 1;have hfz201_2:=blk_frozen BK226.out 2;have hfz201_3:=blk_frozen BK226.out 3)|((with_reducible refine gate_dst (N:=17) rfl ?_);refine Kd.R_lit k23 _ 23 ?hg (N:=17) ?hd (xs:=([(⟨a0_0,a0_1,a0_2,a0_3⟩:S23),(⟨a1_0,a1_1,a1_2,a1_3⟩:S23)]:List (S23))) (inner:=[.int .i64 a0_0,.int .i64 a0_1,.int .i64 a0_2,.int .i64 a0_3,.int .i64 a1_0,.int .i64 a1_1,.int .i64 a1_2,.int .i64 a1_3]) (ok:=fun _=>True) (okp:=fun _=>True) ?hr ?hp (fun _ hk=>hk) trivial (Below.refl _ _) (Nat.le_refl _) (by simp) ?_;(case hd=>rfl);(case hg=>rfl);(case hr=>first|(go_simp;done)|(go_simp;rfl));(case hp=>exact (Reps.c4 (show Kd.M k23 _ _ _ (⟨a0_0,a0_1,a0_2,a0_3⟩:S23) [.int .i64 a0_0,.int .i64 a0_1,.int .i64 a0_2,.int .i64 a0_3] from (k23_mkM _ _ _ (⟨a0_0,a0_1,a0_2,a0_3⟩:S23) )) (Reps.c4 (show Kd.M k23 _ _ _ (⟨a1_0,a1_1,a1_2,a1_3⟩:S23) [.int .i64 a1_0,.int .i64 a1_1,.int .i64 a1_2,.int .i64 a1_3] from (k23_mkM _ _ _ (⟨a1_0,a1_1,a1_2,a1_3⟩:S23) )) (Reps.none _ _))));intro v229 w202 ho203 hb hg_ hnew_;clear hg_ hnew_;(first|rw [← Ny228.out] at ho203|(simp only [Int.reduceToNat] at ho203;rw [← Ny228.out] at ho203));have HO230:=mk0 (Kd.R_lower (Kd.R_newB (Kd.R_newB (Kd.R_newB ho203 (g:=gb225) (o:=.cells #[.int .i64 a0_0,.int .i64 a0_1,.int .i64 a0_2,.int .i64 a0_3] 23 (0,0)) BK225.out) (g:=gb226) (o:=.cells #[.int .i64 a1_0,.int .i64 a1_1,.int .i64 a1_2,.int .i64 a1_3] 23 (0,0)) BK226.out) (g:=gb227) (o:=.cells #[.int .i64 0,.int .i64 0,.int .i64 0,.int .i64 0] 23 (0,0)) BK227.out) (below_size HB.out));replace BK225:=bkb BK225 hb;replace BK226:=bkb BK226 hb;replace BK227:=bkb BK227 hb;replace HB:=bst HB hb;clear hb ho203;obtain ⟨Ao204,co204,eo204⟩:=Kd.R_slice HO230.out;subst eo204)|((with_reducible refine gate_callee (f:=47) rfl ?_);refine goesL_ (some 18) rfl rfl Try.func47 (by kernel_rfl) rfl #[.slice Ao204 y228.length co204] rfl (by (try simp only [List.map_toArray,List.map_cons,List.map_nil]);first|done|rfl|(simp only [List.length_drop,List.length_take];rfl)) ?_;(with_reducible refine (norm_check.calls k _ _ y228 t231 _ ?side1 ?side2 A3.out).mono ?_);(case side1=>repeat (first|exact (Kd.R_reads' HO230.out).2.2|(with_reducible refine Kd.C_alloc ?_ _)|(with_reducible refine Kd.C_drewN ?_ _)|(with_reducible refine Kd.C_drew ?_)));(case side2=>exact (Kd.R_reads' HO230.out).2.1);rintro e w205 ⟨rfl,hb⟩;refine ⟨_,rfl,?_⟩;replace HO230:=rbl HO230 hb;replace BK225:=bkb BK225 hb;replace BK226:=bkb BK226 hb;replace BK227:=bkb BK227 hb;replace HB:=bst HB hb;(try clear hb);(try clear hk);have hcz206_0:w205.cell? ⟨gb227,0,none⟩=some (.int .i64 0):=(blk_cell BK227.out 0).trans rfl;have hcz206_1:w205.cell? ⟨gb227,1,none⟩=some (.int .i64 0):=(blk_cell BK227.out 1).trans rfl;have hcz206_2:w205.cell? ⟨gb227,2,none⟩=some (.int .i64 0):=(blk_cell BK227.out 2).trans rfl;have hcz206_3:w205.cell? ⟨gb227,3,none⟩=some (.int .i64 0):=(blk_cell BK227.out 3).trans rfl;have hfz206_0:=blk_frozen BK227.out 0;have hfz206_1:=blk_frozen BK227.out 1;have hfz206_2:=blk_frozen BK227.out 2;have hfz206_3:=blk_frozen BK227.out 3))
  refine bodyPost_ret (results_ct rfl _ _ gb227 23 #[.int .i64 0,.int .i64 0,.int .i64 0,.int .i64 0] (0,0) _ rfl (by refine blk_put (cs:=#[.int .i64 0,.int .i64 0,.int .i64 0,.int .i64 0]) ?_ 3 _ rfl;refine blk_put (cs:=#[.int .i64 0,.int .i64 0,.int .i64 0,.int .i64 0]) ?_ 2 _ rfl;refine blk_put (cs:=#[.int .i64 0,.int .i64 0,.int .i64 0,.int .i64 0]) ?_ 1 _ rfl;refine blk_put (cs:=#[.int .i64 0,.int .i64 0,.int .i64 0,.int .i64 0]) ?_ 0 _ rfl;exact BK227.out) Try.underlying23 rfl (by kernel_rfl)) rfl ?_;exact ⟨by first|rfl|(simp [errW_none,errW_some] <;> rfl)|(simp [*,errW_none,errW_some] <;> rfl),by repeat (first|(with_reducible first|exact HB.out|apply below_alloc|apply pw_below_drewN|apply below_drew1|refine below_set ?_ GE225.out|refine below_set ?_ GE226.out|refine below_set ?_ GE227.out)|exact HB.out)⟩
/-! ### norm_counted: function 57 -/
def norm_counted.f (a0:Int) (a1:Int):Option (Bool):=if a0 ≥ a1 then (some (decide (a0 ≤ 10000))) else (some false)
set_option maxHeartbeats 8000000 in
set_option maxRecDepth 100000 in
theorem norm_counted.calls (a0:Int) (a1:Int) (r:Bool) (w:World) (h:norm_counted.f a0 a1=some r) :
    Calls Try.prog 57 #[.int .i64 a0,.int .i64 a1] w fun e w'=>e=.returned (.bool r)∧Drawn0 w w':=by
 have H:(if a0 ≥ a1 then (some (decide (a0 ≤ 10000))) else (some false))=some r:=h;clear h
 by_cases c3:a0 ≥ a1
 ·
  rw [if_pos c3] at H;have c3b0:decide (a1 ≤ a0)=true:=decide_eq_true c3;clear c3;obtain rfl:=Option.some.inj H;go_enter Try.func57,Try.ntmps57;go_wp2;go_ret;exact ⟨by first|rfl|(simp;done)|(simp [*];done),by repeat (first|exact Drawn0.refl _|apply Drawn0.step)⟩
 ·
  rw [if_neg c3] at H;have c3b0:decide (a1 ≤ a0)=false:=decide_eq_false c3;clear c3;obtain rfl:=Option.some.inj H;go_enter Try.func57,Try.ntmps57;go_wp2;go_ret;exact ⟨by first|rfl|(simp;done)|(simp [*];done),by repeat (first|exact Drawn0.refl _|apply Drawn0.step)⟩
/-! ### norm_squares: function 58 -/
/-- A row that may be nil. -/
def NilRow (w:World) (base:Nat) (v:Value):Option (List Int) → Prop
  | none=>v=.slice none 0 0
  | some l=>(∃ b,v.ownBlock=some b)∧Kd.R (Kd.int .i64) 3 w base (fun _=>True) v l
theorem NilRow.open {w:World} {base:Nat} {v:Value} {l:List Int} (h:NilRow w base v (some l)):∃ ad c,v=.slice (some ad) l.length c∧Kd.R (Kd.int .i64) 3 w base (fun _=>True) v l:=by
  obtain ⟨⟨b,hb⟩,h⟩:=h
  obtain ⟨A,c,e⟩:=Kd.R_slice h
  cases A with
  | none=>rw [e] at hb;simp [Value.ownBlock] at hb
  | some ad=>exact ⟨ad,c,e,h⟩
theorem NilRow.cons_ne {o:Option (Option (List Int))} {x:Int} {E:Option (Option (List Int))} {r:List Int} (h:(o.bind fun t=>if t.isSome=true then ((some ([x]:List Int)).bind fun y=>if y.length + (t.getD []).length < 17592186044416 then some (some (y ++ t.getD [])) else none) else E)=some (some r)) (hE:E=some (some r) → r ≠ []):r ≠ []:=by
  obtain ⟨t,_,h⟩:=Option.bind_eq_some_iff.mp h
  by_cases ht:t.isSome=true
  · rw [if_pos ht] at h
    simp only [Option.bind_some] at h
    by_cases hl:[x].length + (t.getD []).length < 17592186044416
    · rw [if_pos hl] at h
      cases h
      simp
    · rw [if_neg hl] at h
      cases h
  · rw [if_neg ht] at h
    exact hE h
theorem NilRow.row {w:World} {base:Nat} {v:Value} {o:Option (List Int)} (h:NilRow w base v o):Kd.R (Kd.int .i64) 3 w base (fun _=>True) v (o.getD []):=by
  cases o with
  | none=>obtain rfl:=(show v=.slice none 0 0 from h);exact Kd.R_nil _ _ _ _ _
  | some l=>exact h.2
mutual
def sqN.l0:Nat → Int → Int → Int → Option (Option (List Int))
  | 0,_,_,_=>none
  | k + 1,x0,x1,x7=>if x7 ≥ 0 then (sqN.j1 k x0 x1 x7 (decide ((wrap64 ((wrap64 (x1 * x7)) * x7)) ≥ x0))) else (sqN.j1 k x0 x1 x7 false)
def sqN.j1:Nat → Int → Int → Int → Bool → Option (Option (List Int))
  | 0,_,_,_,_=>none
  | k + 1,x0,x1,x7,x25=>if x25=true then (if (wrap64 (x7 * x7)) > x0 then (sqN.l0 k x0 x1 (wrap64 (x7 - 1))) else ((sqN.f k (wrap64 (x0 - (wrap64 (x7 * x7)))) (wrap64 (x1 - 1)) x7).bind fun t290=>(if t290.isSome=true then ((some (([x7]:List Int):List Int)).bind fun y293=>(if y293.length + (t290.getD []).length < 17592186044416 then (some (some (y293 ++ t290.getD []))) else (none))) else (sqN.l0 k x0 x1 (wrap64 (x7 - 1)))))) else (some (none:Option (List Int)))
def sqN.f:Nat → Int → Int → Int → Option (Option (List Int))
  | 0,_,_,_=>none
  | k + 1,a0,a1,a2=>if a1=0 then (if a0=0 then (some (some ([]:List Int))) else (some (none:Option (List Int)))) else (sqN.l0 k a0 a1 a2)
end
theorem sqN.mono_l:∀ k,(∀ y0 y1 y2,LeO (sqN.f k y0 y1 y2) (sqN.f (k + 1) y0 y1 y2))∧(∀ y0 y1 y2,LeO (sqN.l0 k y0 y1 y2) (sqN.l0 (k + 1) y0 y1 y2))∧(∀ y0 y1 y2 y3,LeO (sqN.j1 k y0 y1 y2 y3) (sqN.j1 (k + 1) y0 y1 y2 y3))
  | 0=>⟨fun _ _ _ r h=>by simp [sqN.f] at h,fun _ _ _ r h=>by simp [sqN.l0] at h,fun _ _ _ _ r h=>by simp [sqN.j1] at h⟩
  | k + 1=>by
    obtain ⟨ih0,ih1,ih2⟩:=sqN.mono_l k
    refine ⟨?_,?_,?_⟩
    · intro y0 y1 y2
      unfold sqN.f
      repeat' first
      | (with_reducible exact ih0 _ _ _)
      | (with_reducible exact ih1 _ _ _)
      | (with_reducible exact ih2 _ _ _ _)
      | (with_reducible exact LeO.refl _)
      | (with_reducible exact LeO.none _)
      | (with_reducible refine LeO.ite ?_ ?_)
      | (with_reducible refine LeO.bind ?_ (fun _=>?_))
      | exact ih0 _ _ _
      | exact ih1 _ _ _
      | exact ih2 _ _ _ _
      | exact LeO.none _
      | refine LeO.ite ?_ ?_
      | refine LeO.bind ?_ (fun _=>?_)
    · intro y0 y1 y2
      unfold sqN.l0
      repeat' first
      | (with_reducible exact ih0 _ _ _)
      | (with_reducible exact ih1 _ _ _)
      | (with_reducible exact ih2 _ _ _ _)
      | (with_reducible exact LeO.refl _)
      | (with_reducible exact LeO.none _)
      | (with_reducible refine LeO.ite ?_ ?_)
      | (with_reducible refine LeO.bind ?_ (fun _=>?_))
      | exact ih0 _ _ _
      | exact ih1 _ _ _
      | exact ih2 _ _ _ _
      | exact LeO.none _
      | refine LeO.ite ?_ ?_
      | refine LeO.bind ?_ (fun _=>?_)
    · intro y0 y1 y2 y3
      unfold sqN.j1
      repeat' first
      | (with_reducible exact ih0 _ _ _)
      | (with_reducible exact ih1 _ _ _)
      | (with_reducible exact ih2 _ _ _ _)
      | (with_reducible exact LeO.refl _)
      | (with_reducible exact LeO.none _)
      | (with_reducible refine LeO.ite ?_ ?_)
      | (with_reducible refine LeO.bind ?_ (fun _=>?_))
      | exact ih0 _ _ _
      | exact ih1 _ _ _
      | exact ih2 _ _ _ _
      | exact LeO.none _
      | refine LeO.ite ?_ ?_
      | refine LeO.bind ?_ (fun _=>?_)
theorem sqN.mono:∀ a0 a1 a2 k,LeO (sqN.f k a0 a1 a2) (sqN.f (k + 1) a0 a1 a2):=by
  intro a0 a1 a2 k
  obtain ⟨ih0,ih1,ih2⟩:=sqN.mono_l k
  exact ih0 a0 a1 a2
theorem sqN.ne:∀ k,(∀ y0 y1 y2 r,sqN.l0 k y0 y1 y2=some (some r) → r ≠ [])∧(∀ y0 y1 y2 y3 r,sqN.j1 k y0 y1 y2 y3=some (some r) → r ≠ [])
  | 0=>⟨fun _ _ _ r h=>by simp [sqN.l0] at h,fun _ _ _ _ r h=>by simp [sqN.j1] at h⟩
  | k + 1=>by
    obtain ⟨ih0,ih1⟩:=sqN.ne k
    refine ⟨?_,?_⟩
    · intro y0 y1 y2 r h
      unfold sqN.l0 at h
      repeat' split at h
      all_goals first|exact ih0 _ _ _ _ h|exact ih1 _ _ _ _ _ h|(cases h;done)|exact NilRow.cons_ne h (fun h=>by first|exact ih0 _ _ _ _ h|exact ih1 _ _ _ _ _ h)
    · intro y0 y1 y2 y3 r h
      unfold sqN.j1 at h
      repeat' split at h
      all_goals first|exact ih0 _ _ _ _ h|exact ih1 _ _ _ _ _ h|(cases h;done)|exact NilRow.cons_ne h (fun h=>by first|exact ih0 _ _ _ _ h|exact ih1 _ _ _ _ _ h)
set_option maxHeartbeats 8000000 in
set_option maxRecDepth 100000 in
theorem sqN.calls (k:Nat):∀ (a0:Int) (a1:Int) (a2:Int) (r:Option (List Int)) (w:World) (h:sqN.f k a0 a1 a2=some r),
    Calls Try.prog 58 #[.int .i64 a0,.int .i64 a1,.int .i64 a2] w fun e w'=>∃ v0_:Value,e=.returned (v0_)∧NilRow w' w.heap.size v0_ r∧Below w.heap.size w w':=by
  induction k using Nat.strongRecOn with
  | _ k ih =>
  intro a0 a1 a2 r w h
  cases k with
  | zero=>exact absurd h (by simp [sqN.f])
  | succ k =>
  simp only [sqN.f] at h
  have HB:=Aside0.mk (Below.refl w.heap.size w)
  have H:(if a1=0 then (if a0=0 then (some (some ([]:List Int))) else (some (none:Option (List Int)))) else (sqN.l0 k a0 a1 a2))=some r:=h
  clear h
  by_cases c4:a1=0
  · rw [if_pos c4] at H
    have c4b0:(a1 == 0)=true:=beq_iff_eq.mpr c4
    have c4b1:(a1 != 0)=false:=bne_eq_false_iff_eq.mpr c4
    clear c4
    by_cases c5:a0=0
    · rw [if_pos c5] at H
      have c5b0:(a0 == 0)=true:=beq_iff_eq.mpr c5
      have c5b1:(a0 != 0)=false:=bne_eq_false_iff_eq.mpr c5
      clear c5
      obtain ⟨y287,hy287⟩:∃ y_:List Int,y_=(([]:List Int)):=⟨_,rfl⟩
      replace H:(some (some y287))=some r:=by first|(rw [hy287];with_reducible exact H)|(have H2_:=(Option.bind_some _ _).symm.trans H;rw [hy287];with_reducible exact H2_)|(have H2_:=(Option.bind_some _ _).symm.trans H;with_reducible exact H2_)|with_reducible exact H|(rw [hy287];exact H)|exact H
      have Ny287:=Aside0.mk hy287
      clear hy287
      obtain rfl:=Option.some.inj H
      go_enter Try.func58,Try.ntmps58
      go_wp2_with (first|((with_reducible refine gate_dst (N:=13) rfl ?_);refine Kd.R_lit (Kd.int .i64) _ 3 ?hg (N:=13) ?hd (xs:=([]:List Int)) (inner:=[]) (ok:=fun _=>True) (okp:=fun _=>True) ?hr ?hp (fun _ hk=>hk) trivial (Below.refl _ _) (Nat.le_refl _) (by simp) ?_;(case hd=>rfl);(case hg=>rfl);(case hr=>first|(go_simp;done)|(go_simp;rfl));(case hp=>exact (Reps.none _ _));intro v288 w6 ho7 hb hg_ hnew_;clear hg_;have HNEW:=Aside0.mk hnew_;clear hnew_;(first|rw [← Ny287.out] at ho7|(simp only [Int.reduceToNat] at ho7;rw [← Ny287.out] at ho7));have n0_:=Aside0.mk (Kd.R_lower ho7 (below_size (by repeat (first|(with_reducible first|exact HB.out|apply below_alloc|apply pw_below_drewN|apply below_drew1)|exact HB.out))));have n1_:=Aside0.mk (below_step (by repeat (first|(with_reducible first|exact HB.out|apply below_alloc|apply pw_below_drewN|apply below_drew1)|exact HB.out)) hb);clear HB;have HO289:=n0_;have HB:=n1_;clear n0_ n1_;clear hb ho7))
      go_ret
      exact ⟨_,by first|rfl|(simp [errW_none,errW_some] <;> rfl)|(simp [*,errW_none,errW_some] <;> rfl),⟨(HNEW.out.elim fun b_ h_=>⟨b_,h_.1⟩),(by (with_reducible repeat (first|apply Kd.R_alloc|apply Kd.R_drewN|apply Kd.R_drew));exact HO289.out)⟩,by repeat (first|(with_reducible first|exact HB.out|apply below_alloc|apply pw_below_drewN|apply below_drew1)|exact HB.out)⟩
    · rw [if_neg c5] at H
      have c5b0:(a0 == 0)=false:=beq_eq_false_iff_ne.mpr c5
      have c5b1:(a0 != 0)=true:=bne_iff_ne.mpr c5
      obtain rfl:=Option.some.inj H
      go_enter Try.func58,Try.ntmps58
      go_wp2
      go_ret
      exact ⟨_,by first|rfl|(simp [errW_none,errW_some] <;> rfl)|(simp [*,errW_none,errW_some] <;> rfl),rfl,by repeat (first|(with_reducible first|exact HB.out|apply below_alloc|apply pw_below_drewN|apply below_drew1)|exact HB.out)⟩
  · rw [if_neg c4] at H
    have c4b0:(a1 == 0)=false:=beq_eq_false_iff_ne.mpr c4
    have c4b1:(a1 != 0)=true:=bne_iff_ne.mpr c4
    have H':=Aside0.mk H
    clear H
    go_enter Try.func58,Try.ntmps58
    go_wp2
    go_loopg [7] k (fun kq v7 w'=>∃ (x7_1:Int),v7=.int .i64 x7_1∧Aside0 (sqN.l0 kq a0 a1 x7_1=some r)∧Aside0 (kq ≤ k)∧Aside0 (Below w.heap.size w w'))
    case atStart=>exact ⟨(a2),(by first|rfl|(simp;done)|(simp [*];done)),H',⟨Nat.le_refl _⟩,⟨by repeat (first|(with_reducible first|exact HB.out|apply below_alloc|apply pw_below_drewN|apply below_drew1)|exact HB.out)⟩⟩
    case round =>
      clear H'
      try clear p2
      try clear c4
      try clear c4b0
      try clear c4b1
      try clear c5
      try clear c5b0
      try clear c5b1
      obtain ⟨x7_1,rfl,HA,HK1,HB⟩:=hrel
      cases gk with
      | zero=>exact absurd HA.out (by simp [sqN.l0])
      | succ k1 =>
        have H:=HA.out
        clear HA
        simp only [sqN.l0] at H
        have HC8:=Aside0.mk H
        clear H
        go_upto_region 6 with (fail)
        go_cut [25] (fun v25 wc=>∃ (kq:Nat) (x25_7:Bool),v25=.bool x25_7∧Aside0 (sqN.j1 kq a0 a1 x7_1 x25_7=some r)∧Aside0 (kq ≤ k1)∧Aside0 (Below w.heap.size w wc))
        case first =>
          have H:=HC8.out
          clear HC8
          by_cases c9:x7_1 ≥ 0
          · rw [if_pos c9] at H
            have c9b0:decide (0 ≤ x7_1)=true:=decide_eq_true c9
            clear c9
            (first|rw [c9b0]|(simp only [i64_w,i32_w];rw [c9b0])|skip)
            have H':=Aside0.mk H
            clear H
            go_wp2
            go_meet
            case rel=>exact ⟨_,(decide ((wrap64 ((wrap64 (a1 * x7_1)) * x7_1)) ≥ a0)),(by first|rfl|(simp;done)|(simp [*];done)),H',⟨by have:=HK1.out;first|omega|exact Nat.le_refl _⟩,⟨by repeat (first|(with_reducible first|exact HB.out|apply below_alloc|apply pw_below_drewN|apply below_drew1)|exact HB.out)⟩⟩
          · rw [if_neg c9] at H
            have c9b0:decide (0 ≤ x7_1)=false:=decide_eq_false c9
            clear c9
            (first|rw [c9b0]|(simp only [i64_w,i32_w];rw [c9b0])|skip)
            have H':=Aside0.mk H
            clear H
            go_wp2
            go_meet
            case rel=>exact ⟨_,(false),(by first|rfl|(simp;done)|(simp [*];done)),H',⟨by have:=HK1.out;first|omega|exact Nat.le_refl _⟩,⟨by repeat (first|(with_reducible first|exact HB.out|apply below_alloc|apply pw_below_drewN|apply below_drew1)|exact HB.out)⟩⟩
        case rest =>
          clear HC8
          try clear p2
          try clear c4
          try clear c4b0
          try clear c4b1
          try clear c5
          try clear c5b0
          try clear c5b1
          try clear p6
          try clear c9
          try clear c9b0
          try clear p2
          obtain ⟨kq,x25_7,rfl,HA,HJ7,HB⟩:=hcut
          cases kq with
          | zero=>exact absurd HA.out (by simp [sqN.j1])
          | succ kj7 =>
            have H:=HA.out
            clear HA
            simp only [sqN.j1] at H
            by_cases c10:x25_7=true
            · subst c10
              have H1:(if (wrap64 (x7_1 * x7_1)) > a0 then (sqN.l0 kj7 a0 a1 (wrap64 (x7_1 - 1))) else ((sqN.f kj7 (wrap64 (a0 - (wrap64 (x7_1 * x7_1)))) (wrap64 (a1 - 1)) x7_1).bind fun t290=>(if t290.isSome=true then ((some (([x7_1]:List Int):List Int)).bind fun y293=>(if y293.length + (t290.getD []).length < 17592186044416 then (some (some (y293 ++ t290.getD []))) else (none))) else (sqN.l0 kj7 a0 a1 (wrap64 (x7_1 - 1))))))=some r:=by rw [if_pos rfl] at H;exact H
              clear H
              have H:=H1
              clear H1
              by_cases c11:(wrap64 (x7_1 * x7_1)) > a0
              · rw [if_pos c11] at H
                have c11b0:decide (a0 < (wrap64 (x7_1 * x7_1)))=true:=decide_eq_true c11
                clear c11
                have H':=Aside0.mk H
                clear H
                go_wp2
                go_roundg kj7
                case measure=>have:=HK1.out;have:=HJ7.out;omega
                case rel=>exact ⟨(wrap64 (x7_1 - 1)),(by first|rfl|(simp;done)|(simp [*];done)),H',⟨by have:=HK1.out;have:=HJ7.out;omega⟩,⟨by repeat (first|(with_reducible first|exact HB.out|apply below_alloc|apply pw_below_drewN|apply below_drew1)|exact HB.out)⟩⟩
              · rw [if_neg c11] at H
                have c11b0:decide (a0 < (wrap64 (x7_1 * x7_1)))=false:=decide_eq_false c11
                clear c11
                replace H:=Option.bind_eq_some_iff.mp H
                obtain ⟨t290,A120,H⟩:=H
                replace H:(if t290.isSome=true then ((some (([x7_1]:List Int):List Int)).bind fun y293=>(if y293.length + (t290.getD []).length < 17592186044416 then (some (some (y293 ++ t290.getD []))) else (none))) else (sqN.l0 kj7 a0 a1 (wrap64 (x7_1 - 1))))=some r:=H
                have A12:=Aside0.mk A120
                clear A120
                by_cases c13:t290.isSome=true
                · rw [if_pos c13] at H
                  obtain ⟨l290,e_⟩:=Option.isSome_iff_exists.mp c13
                  clear c13
                  subst e_
                  simp only [Option.getD_some] at H
                  obtain ⟨y293,hy293⟩:∃ y_:List Int,y_=(([x7_1]:List Int)):=⟨_,rfl⟩
                  replace H:(if y293.length + l290.length < 17592186044416 then (some (some (y293 ++ l290))) else (none))=some r:=by first|(rw [hy293];with_reducible exact H)|(have H2_:=(Option.bind_some _ _).symm.trans H;rw [hy293];with_reducible exact H2_)|(have H2_:=(Option.bind_some _ _).symm.trans H;with_reducible exact H2_)|with_reducible exact H|(rw [hy293];exact H)|exact H
                  have Ny293:=Aside0.mk hy293
                  clear hy293
                  by_cases c14:y293.length + l290.length < 17592186044416
                  · rw [if_pos c14] at H
                    have LMc14:=Aside0.mk c14
                    clear c14
                    obtain ⟨y296,hy296⟩:∃ y_:List Int,y_=(y293 ++ l290):=⟨_,rfl⟩
                    replace H:(some (some y296))=some r:=by first|(rw [hy296];with_reducible exact H)|(have H2_:=(Option.bind_some _ _).symm.trans H;rw [hy296];with_reducible exact H2_)|(have H2_:=(Option.bind_some _ _).symm.trans H;with_reducible exact H2_)|with_reducible exact H|(rw [hy296];exact H)|exact H
                    have Ny296:=Aside0.mk hy296
                    clear hy296
                    obtain rfl:=Option.some.inj H
                    go_wp2_with (first|((with_reducible refine gate_callee (f:=58) rfl ?_);refine goesL_ (some 41) rfl rfl Try.func58 (by kernel_rfl) rfl #[.int .i64 (wrap64 (a0 - (wrap64 (x7_1 * x7_1)))),.int .i64 (wrap64 (a1 - 1)),.int .i64 x7_1] rfl (by (try simp only [List.map_toArray,List.map_cons,List.map_nil]);first|done|rfl|(simp only [List.length_drop,List.length_take];rfl)) ?_;(with_reducible refine (ih kj7 (by have:=HK1.out;have:=HJ7.out;omega) (wrap64 (a0 - (wrap64 (x7_1 * x7_1)))) (wrap64 (a1 - 1)) x7_1 (some l290) _ A12.out).mono ?_);rintro e w15 ⟨v291,rfl,ho1,hb⟩;obtain ⟨Ad_,Ac_,ev_,ho0⟩:=NilRow.open ho1;clear ho1;subst ev_;refine ⟨_,rfl,?_⟩;have n0_:=Aside0.mk (Kd.R_lower ho0 (below_size (by repeat (first|(with_reducible first|exact HB.out|apply below_alloc|apply pw_below_drewN|apply below_drew1)|exact HB.out))));have n1_:=Aside0.mk (below_step (by repeat (first|(with_reducible first|exact HB.out|apply below_alloc|apply pw_below_drewN|apply below_drew1)|exact HB.out)) hb);clear HB;have HO292:=n0_;have HB:=n1_;clear n0_ n1_;(try clear hb);(try clear hb2);(try clear hk);(try clear hi);(try clear ho0))|((with_reducible refine gate_dst (N:=45) rfl ?_);refine Kd.R_lit (Kd.int .i64) _ 3 ?hg (N:=45) ?hd (xs:=([x7_1]:List Int)) (inner:=[.int .i64 x7_1]) (ok:=fun _=>True) (okp:=fun _=>True) ?hr ?hp (fun _ hk=>hk) trivial (Below.refl _ _) (Nat.le_refl _) (by simp) ?_;(case hd=>rfl);(case hg=>rfl);(case hr=>first|(go_simp;done)|(go_simp;rfl));(case hp=>exact (Reps.one (show Kd.M (Kd.int .i64) _ _ _ x7_1 [.int .i64 x7_1] from rfl) (Reps.none _ _)));intro v294 w16 ho17 hb hg_ hnew_;clear hg_;have HNEW:=Aside0.mk hnew_;clear hnew_;(first|rw [← Ny293.out] at ho17|(simp only [Int.reduceToNat] at ho17;rw [← Ny293.out] at ho17));have n0_:=Aside0.mk (Kd.R_elder' (by (with_reducible repeat (first|apply Kd.R_alloc|apply Kd.R_drewN|apply Kd.R_drew));exact HO292.out) (Kd.R_base ho17) hb);have n1_:=Aside0.mk (Kd.R_lower (Kd.R_new' ho17 (Kd.R_lt (by (with_reducible repeat (first|apply Kd.R_alloc|apply Kd.R_drewN|apply Kd.R_drew));exact HO292.out))) (below_size (by repeat (first|(with_reducible first|exact HB.out|apply below_alloc|apply pw_below_drewN|apply below_drew1)|exact HB.out))));have n2_:=Aside0.mk (below_step (by repeat (first|(with_reducible first|exact HB.out|apply below_alloc|apply pw_below_drewN|apply below_drew1)|exact HB.out)) hb);clear HO292;clear HB;have HO292:=n0_;have HO295:=n1_;have HB:=n2_;clear n0_ n1_ n2_;clear hb ho17)|((with_reducible refine gate_builtin (b:=.append) (xs:=#[.tmp 45,.tmp 46]) rfl ?_);at_builtin;refine Kd.R_append_rows (Kd.int .i64) (w0:=w) w.heap.size rfl (.tmp 45) (.tmp 46) 36 3 (.int .i64 0) 8 rfl Try.underlying36 info3 rfl (by decide) (by omega) v294 y293 l290 _ _ _ (fun k_=>some k_ ≠ (.slice (some Ad_) l290.length Ac_:Value).ownBlock) (fun _=>False) rfl rfl ?aO ?aR (fun _ _ h=>h) (fun _ h=>h.elim) ?aF ?aB ?aS ?aL ?_;(case aR=>repeat (first|exact (Kd.R_reads' HO292.out).2.2|(with_reducible refine Kd.C_alloc ?_ _)|(with_reducible refine Kd.C_drewN ?_ _)|(with_reducible refine Kd.C_drew ?_)));(case aB=>exact (by repeat (first|(with_reducible first|exact HB.out|apply below_alloc|apply pw_below_drewN|apply below_drew1)|exact HB.out)));(case aF=>exact (fun k_ hk=>Kd.fresh' (Kd.R_lt (by (with_reducible repeat (first|apply Kd.R_alloc|apply Kd.R_drewN|apply Kd.R_drew));exact HO292.out)) k_ hk));(case aO=>exact (by (with_reducible repeat (first|apply Kd.R_alloc|apply Kd.R_drewN|apply Kd.R_drew));exact Kd.R_mono HO295.out (fun _ hk=>hk.2)));(case aS=>exact (below_size (by repeat (first|(with_reducible first|exact HB.out|apply below_alloc|apply pw_below_drewN|apply below_drew1)|exact HB.out))));(case aL=>have:=LMc14.out;omega);intro v297 w18 ho hb hg hat;have HAT:=Aside0.mk hat;rw [← Ny296.out] at ho;have n0_:=Aside0.mk (Kd.R_after (ok:=(fun _=>True)) (by (with_reducible repeat (first|apply Kd.R_alloc|apply Kd.R_drewN|apply Kd.R_drew));exact HO292.out) hg hat);have n1_:=Aside0.mk (hb);have n2_:=Aside0.mk (ho);clear HO292;clear HB;clear HO295;have HO292:=n0_;have HB:=n1_;have HO298:=n2_;clear n0_ n1_ n2_;clear ho hb hg hat))
                    go_ret
                    exact ⟨_,by first|rfl|(simp [errW_none,errW_some] <;> rfl)|(simp [*,errW_none,errW_some] <;> rfl),⟨(HNEW.out.elim fun b_ h_=>HAT.out.elim (fun e_=>⟨b_,e_.trans h_.1⟩) (fun h2_=>h2_.elim fun b2_ h3_=>⟨b2_,h3_.1⟩)),(by (with_reducible repeat (first|apply Kd.R_alloc|apply Kd.R_drewN|apply Kd.R_drew));exact Kd.R_mono HO298.out (fun _ hk=>trivial))⟩,by repeat (first|(with_reducible first|exact HB.out|apply below_alloc|apply pw_below_drewN|apply below_drew1)|exact HB.out)⟩
                  · rw [if_neg c14] at H
                    exact absurd H (by simp)
                · rw [if_neg c13] at H
                  obtain e_:t290=none:=by cases t290 with
                    | none=>rfl
                    | some z=>exact absurd rfl c13
                  clear c13
                  subst e_
                  have H':=Aside0.mk H
                  clear H
                  go_wp2_with (first|((with_reducible refine gate_callee (f:=58) rfl ?_);refine goesL_ (some 41) rfl rfl Try.func58 (by kernel_rfl) rfl #[.int .i64 (wrap64 (a0 - (wrap64 (x7_1 * x7_1)))),.int .i64 (wrap64 (a1 - 1)),.int .i64 x7_1] rfl (by (try simp only [List.map_toArray,List.map_cons,List.map_nil]);first|done|rfl|(simp only [List.length_drop,List.length_take];rfl)) ?_;(with_reducible refine (ih kj7 (by have:=HK1.out;have:=HJ7.out;omega) (wrap64 (a0 - (wrap64 (x7_1 * x7_1)))) (wrap64 (a1 - 1)) x7_1 none _ A12.out).mono ?_);rintro e w20 ⟨v291,rfl,ho0,hb⟩;(have ev_:v291=.slice none 0 0:=ho0);clear ho0;subst ev_;refine ⟨_,rfl,?_⟩;have n1_:=Aside0.mk (below_step (by repeat (first|(with_reducible first|exact HB.out|apply below_alloc|apply pw_below_drewN|apply below_drew1)|exact HB.out)) hb);clear HB;have HB:=n1_;clear n1_;(try clear hb);(try clear hb2);(try clear hk);(try clear hi);(try clear ho0)))
                  go_roundg kj7
                  case measure=>have:=HK1.out;have:=HJ7.out;omega
                  case rel=>exact ⟨(wrap64 (x7_1 - 1)),(by first|rfl|(simp;done)|(simp [*];done)),H',⟨by have:=HK1.out;have:=HJ7.out;omega⟩,⟨by repeat (first|(with_reducible first|exact HB.out|apply below_alloc|apply pw_below_drewN|apply below_drew1)|exact HB.out)⟩⟩
            · replace c10:=Bool.eq_false_iff.mpr c10
              subst c10
              have H1:(some (none:Option (List Int)))=some r:=by rw [if_neg (show ¬ (false=true) by decide)] at H;exact H
              clear H
              have H:=H1
              clear H1
              obtain rfl:=Option.some.inj H
              go_wp2
              go_ret
              exact ⟨_,by first|rfl|(simp [errW_none,errW_some] <;> rfl)|(simp [*,errW_none,errW_some] <;> rfl),rfl,by repeat (first|(with_reducible first|exact HB.out|apply below_alloc|apply pw_below_drewN|apply below_drew1)|exact HB.out)⟩

def norm_squares.f (k:Nat) (a0 a1 a2:Int):Option (List Int):=if a1=0 then none else (sqN.f k a0 a1 a2).bind fun o=>some (o.getD [])
theorem norm_squares.mono:∀ a0 a1 a2 k,LeO (norm_squares.f k a0 a1 a2) (norm_squares.f (k + 1) a0 a1 a2):=by
  intro a0 a1 a2 k
  unfold norm_squares.f
  exact LeO.ite (LeO.none _) (LeO.bind (sqN.mono a0 a1 a2 k) (fun _=>LeO.refl _))
theorem norm_squares.calls (k:Nat) (a0:Int) (a1:Int) (a2:Int) (r:List Int) (w:World) (h:norm_squares.f k a0 a1 a2=some r) :
    Calls Try.prog 58 #[.int .i64 a0,.int .i64 a1,.int .i64 a2] w fun e w'=>∃ v0_:Value,e=.returned (v0_)∧Kd.R (Kd.int .i64) 3 w' w.heap.size (fun _=>True) v0_ r∧(r=[] → v0_=.slice none 0 0)∧Below w.heap.size w w':=by
  unfold norm_squares.f at h
  by_cases h0:a1=0
  · rw [if_pos h0] at h
    exact absurd h (by simp)
  · rw [if_neg h0] at h
    obtain ⟨o,ho,h⟩:=Option.bind_eq_some_iff.mp h
    obtain rfl:=Option.some.inj h
    refine (sqN.calls k a0 a1 a2 o w ho).mono ?_
    rintro e w' ⟨v,rfl,hn,hb⟩
    refine ⟨v,rfl,hn.row,?_,hb⟩
    intro e0
    cases o with
    | none=>exact hn
    | some l =>
      exfalso
      cases k with
      | zero=>exact absurd ho (by simp [sqN.f])
      | succ k =>
        simp only [sqN.f] at ho
        rw [if_neg h0] at ho
        exact (sqN.ne k).1 _ _ _ _ ho (by simpa using e0)

/-! ### norm_root: function 59 -/
def norm_root.l0:Nat → Int → Int → Option (Int)
  | 0,_,_=>none
  | k + 1,x0,x3=>if (wrap64 ((wrap64 (x3 + 1)) * (wrap64 (x3 + 1)))) ≤ x0 then (norm_root.l0 k x0 (wrap64 (x3 + 1))) else (some x3)
def norm_root.f (k:Nat) (a0:Int):Option (Int):=norm_root.l0 k a0 0
theorem norm_root.mono_l:∀ k,(∀ y0 y1,LeO (norm_root.l0 k y0 y1) (norm_root.l0 (k + 1) y0 y1))
  | 0=>fun _ _ r h=>by simp [norm_root.l0] at h
  | k + 1=>by
    have ih0:=norm_root.mono_l k
    · intro y0 y1
      unfold norm_root.l0
      with_reducible repeat' first|exact ih0 _ _|exact LeO.refl _|exact LeO.none _|refine LeO.ite ?_ ?_|refine LeO.bind ?_ (fun _=>?_)
theorem norm_root.mono:∀ a0 k,LeO (norm_root.f k a0) (norm_root.f (k + 1) a0):=by
  intro a0 k
  have ih0:=norm_root.mono_l k
  unfold norm_root.f
  with_reducible repeat' first|exact ih0 _ _|exact LeO.refl _|exact LeO.none _|refine LeO.ite ?_ ?_|refine LeO.bind ?_ (fun _=>?_)
set_option maxHeartbeats 8000000 in
set_option maxRecDepth 100000 in
theorem norm_root.calls (k:Nat) (a0:Int) (r:Int) (w:World) (h:norm_root.f k a0=some r) :
    Calls Try.prog 59 #[.int .i64 a0] w fun e w'=>e=.returned (.int .i64 r)∧Drawn0 w w':=by
 have H:(norm_root.l0 k a0 0)=some r:=h;clear h;have H':=mk0 H;clear H;go_enter Try.func59,Try.ntmps59;go_wp2
 go_loopg [3] k (fun kq v3 w'=>∃ (x3_1:Int),v3=.int .i64 x3_1∧Aside0 (norm_root.l0 kq a0 x3_1=some r)∧Aside0 (kq ≤ k)∧Drawn0 w w')
 case atStart=>exact ⟨(0),(by first|rfl|(simp;done)|(simp [*];done)),H',⟨Nat.le_refl _⟩,by repeat (first|exact Drawn0.refl _|apply Drawn0.step)⟩
 case round =>
  clear H';obtain ⟨x3_1,rfl,HA,HK1,⟨m1,rfl⟩⟩:=hrel;cases gk with
  | zero=>exact absurd HA.out (by simp [norm_root.l0])
  | succ k1 =>
   have H:=HA.out;clear HA;simp only [norm_root.l0] at H
   by_cases c2:(wrap64 ((wrap64 (x3_1 + 1)) * (wrap64 (x3_1 + 1)))) ≤ a0
   ·
    rw [if_pos c2] at H;have c2b0:decide ((wrap64 ((wrap64 (x3_1 + 1)) * (wrap64 (x3_1 + 1)))) ≤ a0)=true:=decide_eq_true c2;clear c2;have H':=mk0 H;clear H;go_wp2;go_roundg k1
    case measure=>have:=HK1.out;omega
    case rel=>exact ⟨(wrap64 (x3_1 + 1)),(by first|rfl|(simp;done)|(simp [*];done)),H',⟨by have:=HK1.out;omega⟩,by repeat (first|exact Drawn0.refl _|apply Drawn0.step)⟩
   ·
    rw [if_neg c2] at H;have c2b0:decide ((wrap64 ((wrap64 (x3_1 + 1)) * (wrap64 (x3_1 + 1)))) ≤ a0)=false:=decide_eq_false c2;clear c2;obtain rfl:=Option.some.inj H;go_wp2;go_ret;exact ⟨by first|rfl|(simp;done)|(simp [*];done),by repeat (first|exact Drawn0.refl _|apply Drawn0.step)⟩
/-! ### norm_Four: function 23 -/
def norm_Four.f (k:Nat) (a0:Int):Option (List Int × Int):=(norm_counted.f a0 0).bind fun t271=>(if t271=true then ((norm_root.f k a0).bind fun t272=>((norm_squares.f k a0 4 t272).bind fun t273=>(some (t273,0)))) else (some (([]:List Int),1)))
theorem norm_Four.mono:∀ a0 k,LeO (norm_Four.f k a0) (norm_Four.f (k + 1) a0):=by
  intro a0 k
  unfold norm_Four.f
  with_reducible repeat' first|exact norm_root.mono _ _|exact norm_squares.mono _ _ _ _|exact LeO.refl _|exact LeO.none _|refine LeO.ite ?_ ?_|refine LeO.bind ?_ (fun _=>?_)
set_option maxHeartbeats 8000000 in
set_option maxRecDepth 100000 in
theorem norm_Four.calls (k:Nat) (a0:Int) (r1:List Int) (r2:Int) (w:World) (h:norm_Four.f k a0=some (r1,r2)) :
    Calls Try.prog 23 #[.int .i64 a0] w fun e w'=>∃ v0_:Value,e=.returned (.tuple #[v0_,.int .i64 r2])∧Kd.R (Kd.int .i64) 3 w' w.heap.size (fun _=>True) v0_ r1∧Below w.heap.size w w':=by
 have HB:=mk0 (Below.refl w.heap.size w);have H:((norm_counted.f a0 0).bind fun t271=>(if t271=true then ((norm_root.f k a0).bind fun t272=>((norm_squares.f k a0 4 t272).bind fun t273=>(some (t273,0)))) else (some (([]:List Int),1))))=some (r1,r2):=h;clear h;replace H:=Option.bind_eq_some_iff.mp H;obtain ⟨t271,A20,H⟩:=H;(try dsimp only at H);have A2:=mk0 A20;clear A20
 by_cases c3:t271=true
 ·
  subst c3;have H1:((norm_root.f k a0).bind fun t272=>((norm_squares.f k a0 4 t272).bind fun t273=>(some (t273,0))))=some (r1,r2):=by rw [if_pos rfl] at H;exact H
  clear H;have H:=H1;clear H1;replace H:=Option.bind_eq_some_iff.mp H;obtain ⟨t272,A40,H⟩:=H;(try dsimp only at H);have A4:=mk0 A40;clear A40;replace H:=Option.bind_eq_some_iff.mp H;obtain ⟨t273,A50,H⟩:=H;(try dsimp only at H);have A5:=mk0 A50;clear A50;simp only [Option.some.injEq,Prod.mk.injEq] at H;obtain ⟨rfl,rfl⟩:=H;go_enter Try.func23,Try.ntmps23;go_wp2_with (first|((with_reducible refine gate_callee (f:=57) rfl ?_);refine goesL_ (some 5) rfl rfl Try.func57 (by kernel_rfl) rfl #[.int .i64 a0,.int .i64 0] rfl (by (try simp only [List.map_toArray,List.map_cons,List.map_nil]);first|done|rfl|(simp only [List.length_drop,List.length_take];rfl)) ?_;(with_reducible refine (norm_counted.calls a0 0 true _ A2.out).mono ?_);rintro e w' ⟨rfl,⟨nd,rfl⟩⟩;refine ⟨_,rfl,?_⟩)|((with_reducible refine gate_callee (f:=59) rfl ?_);refine goesL_ (some 9) rfl rfl Try.func59 (by kernel_rfl) rfl #[.int .i64 a0] rfl (by (try simp only [List.map_toArray,List.map_cons,List.map_nil]);first|done|rfl|(simp only [List.length_drop,List.length_take];rfl)) ?_;(with_reducible refine (norm_root.calls k a0 t272 _ A4.out).mono ?_);rintro e w' ⟨rfl,⟨nd,rfl⟩⟩;refine ⟨_,rfl,?_⟩)|((with_reducible refine gate_callee (f:=58) rfl ?_);refine goesL_ (some 10) rfl rfl Try.func58 (by kernel_rfl) rfl #[.int .i64 a0,.int .i64 4,.int .i64 t272] rfl (by (try simp only [List.map_toArray,List.map_cons,List.map_nil]);first|done|rfl|(simp only [List.length_drop,List.length_take];rfl)) ?_;(with_reducible refine (norm_squares.calls k a0 4 t272 t273 _ A5.out).mono ?_);rintro e w6 ⟨v274,rfl,ho0,hz0,hb⟩;refine ⟨_,rfl,?_⟩;have HO275:=mk0 (Kd.R_lower ho0 (below_size (by repeat (first|(with_reducible first|exact HB.out|apply below_alloc|apply pw_below_drewN|apply below_drew1)|exact HB.out))));have NZHO275:=mk0 (hz0);replace HB:=mk0 (below_step (by repeat (first|(with_reducible first|exact HB.out|apply below_alloc|apply pw_below_drewN|apply below_drew1)|exact HB.out)) hb);(try clear hb);(try clear ho0)));go_ret2;exact ⟨_,by first|rfl|(simp [errW_none,errW_some] <;> rfl)|(simp [*,errW_none,errW_some] <;> rfl),by (with_reducible repeat (first|apply Kd.R_alloc|apply Kd.R_drewN|apply Kd.R_drew));exact HO275.out,by repeat (first|(with_reducible first|exact HB.out|apply below_alloc|apply pw_below_drewN|apply below_drew1)|exact HB.out)⟩
 ·
  replace c3:=Bool.eq_false_iff.mpr c3;subst c3;have H1:(some (([]:List Int),1))=some (r1,r2):=by rw [if_neg (show ¬ (false=true) by decide)] at H;exact H
  clear H;have H:=H1;clear H1;simp only [Option.some.injEq,Prod.mk.injEq] at H;obtain ⟨rfl,rfl⟩:=H;go_enter Try.func23,Try.ntmps23;go_wp2_with (first|((with_reducible refine gate_callee (f:=57) rfl ?_);refine goesL_ (some 5) rfl rfl Try.func57 (by kernel_rfl) rfl #[.int .i64 a0,.int .i64 0] rfl (by (try simp only [List.map_toArray,List.map_cons,List.map_nil]);first|done|rfl|(simp only [List.length_drop,List.length_take];rfl)) ?_;(with_reducible refine (norm_counted.calls a0 0 false _ A2.out).mono ?_);rintro e w' ⟨rfl,⟨nd,rfl⟩⟩;refine ⟨_,rfl,?_⟩));go_ret2;exact ⟨_,by first|rfl|(simp [errW_none,errW_some] <;> rfl)|(simp [*,errW_none,errW_some] <;> rfl),by first|exact Kd.R_nil _ _ _ _ _|exact Kd.N_nil _ _ _ _ _|exact Kd.V_nil _ _ _ _ _|exact Kd.Q_nil _ _ _ _ _|exact Kd.S_nil _ _ _ _ _,by repeat (first|(with_reducible first|exact HB.out|apply below_alloc|apply pw_below_drewN|apply below_drew1)|exact HB.out)⟩
/-! ### norm_Three: function 24 -/
def norm_Three.f (k:Nat) (a0:Int):Option (List Int × Int):=(norm_counted.f a0 0).bind fun t276=>(if t276=true then ((norm_root.f k a0).bind fun t277=>((norm_squares.f k a0 3 t277).bind fun t278=>(if 0 < (t278.length:Int) then (some (t278,0)) else (some (([]:List Int),5))))) else (some (([]:List Int),1)))
theorem norm_Three.mono:∀ a0 k,LeO (norm_Three.f k a0) (norm_Three.f (k + 1) a0):=by
  intro a0 k
  unfold norm_Three.f
  with_reducible repeat' first|exact norm_root.mono _ _|exact norm_squares.mono _ _ _ _|exact LeO.refl _|exact LeO.none _|refine LeO.ite ?_ ?_|refine LeO.bind ?_ (fun _=>?_)
set_option maxHeartbeats 8000000 in
set_option maxRecDepth 100000 in
theorem norm_Three.calls (k:Nat) (a0:Int) (r1:List Int) (r2:Int) (w:World) (h:norm_Three.f k a0=some (r1,r2)) :
    Calls Try.prog 24 #[.int .i64 a0] w fun e w'=>∃ v0_:Value,e=.returned (.tuple #[v0_,.int .i64 r2])∧Kd.R (Kd.int .i64) 3 w' w.heap.size (fun _=>True) v0_ r1∧Below w.heap.size w w':=by
 have HB:=mk0 (Below.refl w.heap.size w);have H:((norm_counted.f a0 0).bind fun t276=>(if t276=true then ((norm_root.f k a0).bind fun t277=>((norm_squares.f k a0 3 t277).bind fun t278=>(if 0 < (t278.length:Int) then (some (t278,0)) else (some (([]:List Int),5))))) else (some (([]:List Int),1))))=some (r1,r2):=h;clear h;replace H:=Option.bind_eq_some_iff.mp H;obtain ⟨t276,A20,H⟩:=H;(try dsimp only at H);have A2:=mk0 A20;clear A20
 by_cases c3:t276=true
 ·
  subst c3;have H1:((norm_root.f k a0).bind fun t277=>((norm_squares.f k a0 3 t277).bind fun t278=>(if 0 < (t278.length:Int) then (some (t278,0)) else (some (([]:List Int),5)))))=some (r1,r2):=by rw [if_pos rfl] at H;exact H
  clear H;have H:=H1;clear H1;replace H:=Option.bind_eq_some_iff.mp H;obtain ⟨t277,A40,H⟩:=H;(try dsimp only at H);have A4:=mk0 A40;clear A40;replace H:=Option.bind_eq_some_iff.mp H;obtain ⟨t278,A50,H⟩:=H;(try dsimp only at H);have A5:=mk0 A50;clear A50
  by_cases c6:0 < (t278.length:Int)
  ·
   rw [if_pos c6] at H;have c6b0:decide (0 < (t278.length:Int))=true:=decide_eq_true c6;have c6b1:decide (0 < t278.length)=true:=decide_eq_true (by omega);clear c6;simp only [Option.some.injEq,Prod.mk.injEq] at H;obtain ⟨rfl,rfl⟩:=H;go_enter Try.func24,Try.ntmps24;go_wp2_with (first|((with_reducible refine gate_callee (f:=57) rfl ?_);refine goesL_ (some 6) rfl rfl Try.func57 (by kernel_rfl) rfl #[.int .i64 a0,.int .i64 0] rfl (by (try simp only [List.map_toArray,List.map_cons,List.map_nil]);first|done|rfl|(simp only [List.length_drop,List.length_take];rfl)) ?_;(with_reducible refine (norm_counted.calls a0 0 true _ A2.out).mono ?_);rintro e w' ⟨rfl,⟨nd,rfl⟩⟩;refine ⟨_,rfl,?_⟩)|((with_reducible refine gate_callee (f:=59) rfl ?_);refine goesL_ (some 10) rfl rfl Try.func59 (by kernel_rfl) rfl #[.int .i64 a0] rfl (by (try simp only [List.map_toArray,List.map_cons,List.map_nil]);first|done|rfl|(simp only [List.length_drop,List.length_take];rfl)) ?_;(with_reducible refine (norm_root.calls k a0 t277 _ A4.out).mono ?_);rintro e w' ⟨rfl,⟨nd,rfl⟩⟩;refine ⟨_,rfl,?_⟩)|((with_reducible refine gate_callee (f:=58) rfl ?_);refine goesL_ (some 11) rfl rfl Try.func58 (by kernel_rfl) rfl #[.int .i64 a0,.int .i64 3,.int .i64 t277] rfl (by (try simp only [List.map_toArray,List.map_cons,List.map_nil]);first|done|rfl|(simp only [List.length_drop,List.length_take];rfl)) ?_;(with_reducible refine (norm_squares.calls k a0 3 t277 t278 _ A5.out).mono ?_);rintro e w7 ⟨v279,rfl,ho0,hz0,hb⟩;refine ⟨_,rfl,?_⟩;have HO280:=mk0 (Kd.R_lower ho0 (below_size (by repeat (first|(with_reducible first|exact HB.out|apply below_alloc|apply pw_below_drewN|apply below_drew1)|exact HB.out))));have NZHO280:=mk0 (hz0);replace HB:=mk0 (below_step (by repeat (first|(with_reducible first|exact HB.out|apply below_alloc|apply pw_below_drewN|apply below_drew1)|exact HB.out)) hb);(try clear hb);(try clear ho0);obtain ⟨Ao8,co8,eo8⟩:=Kd.R_slice HO280.out;subst eo8;have p281:0 ≤ (0:Int):=(by omega);have q281:0 < (t278.length:Int):=of_decide_eq_true (by first|(with_reducible assumption)|assumption);obtain ⟨ad281,e281,hx281_0⟩:=Kd.at_int (Kd.R_reads' HO280.out).2.2 0 p281 q281;cases e281;have qi281:(0 < t278.length)=True:=eq_true (by omega);(try rw [show ((0:Int)).toNat=0 from rfl] at hx281_0);(try rw [Addr.add_zero'] at hx281_0);replace p281:=eq_true p281;replace q281:=eq_true q281));go_ret2;exact ⟨_,by first|rfl|(simp [errW_none,errW_some] <;> rfl)|(simp [*,errW_none,errW_some] <;> rfl),by (with_reducible repeat (first|apply Kd.R_alloc|apply Kd.R_drewN|apply Kd.R_drew));exact HO280.out,by repeat (first|(with_reducible first|exact HB.out|apply below_alloc|apply pw_below_drewN|apply below_drew1)|exact HB.out)⟩
  ·
   rw [if_neg c6] at H;have c6b0:decide (0 < (t278.length:Int))=false:=decide_eq_false c6;have c6b1:decide (0 < t278.length)=false:=decide_eq_false (by omega);clear c6;simp only [Option.some.injEq,Prod.mk.injEq] at H;obtain ⟨rfl,rfl⟩:=H;go_enter Try.func24,Try.ntmps24;go_wp2_with (first|((with_reducible refine gate_callee (f:=57) rfl ?_);refine goesL_ (some 6) rfl rfl Try.func57 (by kernel_rfl) rfl #[.int .i64 a0,.int .i64 0] rfl (by (try simp only [List.map_toArray,List.map_cons,List.map_nil]);first|done|rfl|(simp only [List.length_drop,List.length_take];rfl)) ?_;(with_reducible refine (norm_counted.calls a0 0 true _ A2.out).mono ?_);rintro e w' ⟨rfl,⟨nd,rfl⟩⟩;refine ⟨_,rfl,?_⟩)|((with_reducible refine gate_callee (f:=59) rfl ?_);refine goesL_ (some 10) rfl rfl Try.func59 (by kernel_rfl) rfl #[.int .i64 a0] rfl (by (try simp only [List.map_toArray,List.map_cons,List.map_nil]);first|done|rfl|(simp only [List.length_drop,List.length_take];rfl)) ?_;(with_reducible refine (norm_root.calls k a0 t277 _ A4.out).mono ?_);rintro e w' ⟨rfl,⟨nd,rfl⟩⟩;refine ⟨_,rfl,?_⟩)|((with_reducible refine gate_callee (f:=58) rfl ?_);refine goesL_ (some 11) rfl rfl Try.func58 (by kernel_rfl) rfl #[.int .i64 a0,.int .i64 3,.int .i64 t277] rfl (by (try simp only [List.map_toArray,List.map_cons,List.map_nil]);first|done|rfl|(simp only [List.length_drop,List.length_take];rfl)) ?_;(with_reducible refine (norm_squares.calls k a0 3 t277 t278 _ A5.out).mono ?_);rintro e w9 ⟨v279,rfl,ho0,hz0,hb⟩;refine ⟨_,rfl,?_⟩;have HO280:=mk0 (Kd.R_lower ho0 (below_size (by repeat (first|(with_reducible first|exact HB.out|apply below_alloc|apply pw_below_drewN|apply below_drew1)|exact HB.out))));have NZHO280:=mk0 (hz0);replace HB:=mk0 (below_step (by repeat (first|(with_reducible first|exact HB.out|apply below_alloc|apply pw_below_drewN|apply below_drew1)|exact HB.out)) hb);(try clear hb);(try clear ho0);have hz_:=NZHO280.out (List.length_eq_zero_iff.mp (Nat.eq_zero_of_not_pos (of_decide_eq_false (show decide (0 < t278.length)=false by assumption))));subst hz_));go_ret2;exact ⟨_,by first|rfl|(simp [errW_none,errW_some] <;> rfl)|(simp [*,errW_none,errW_some] <;> rfl),by first|exact Kd.R_nil _ _ _ _ _|exact Kd.N_nil _ _ _ _ _|exact Kd.V_nil _ _ _ _ _|exact Kd.Q_nil _ _ _ _ _|exact Kd.S_nil _ _ _ _ _,by repeat (first|(with_reducible first|exact HB.out|apply below_alloc|apply pw_below_drewN|apply below_drew1)|exact HB.out)⟩
 ·
  replace c3:=Bool.eq_false_iff.mpr c3;subst c3;have H1:(some (([]:List Int),1))=some (r1,r2):=by rw [if_neg (show ¬ (false=true) by decide)] at H;exact H
  clear H;have H:=H1;clear H1;simp only [Option.some.injEq,Prod.mk.injEq] at H;obtain ⟨rfl,rfl⟩:=H;go_enter Try.func24,Try.ntmps24;go_wp2_with (first|((with_reducible refine gate_callee (f:=57) rfl ?_);refine goesL_ (some 6) rfl rfl Try.func57 (by kernel_rfl) rfl #[.int .i64 a0,.int .i64 0] rfl (by (try simp only [List.map_toArray,List.map_cons,List.map_nil]);first|done|rfl|(simp only [List.length_drop,List.length_take];rfl)) ?_;(with_reducible refine (norm_counted.calls a0 0 false _ A2.out).mono ?_);rintro e w' ⟨rfl,⟨nd,rfl⟩⟩;refine ⟨_,rfl,?_⟩));go_ret2;exact ⟨_,by first|rfl|(simp [errW_none,errW_some] <;> rfl)|(simp [*,errW_none,errW_some] <;> rfl),by first|exact Kd.R_nil _ _ _ _ _|exact Kd.N_nil _ _ _ _ _|exact Kd.V_nil _ _ _ _ _|exact Kd.Q_nil _ _ _ _ _|exact Kd.S_nil _ _ _ _ _,by repeat (first|(with_reducible first|exact HB.out|apply below_alloc|apply pw_below_drewN|apply below_drew1)|exact HB.out)⟩
/-! ### bellpullref01_Before: function 60 -/
mutual
def bellpullref01_Before.l0:Nat → List Int → List Int → Int → Option (Bool)
  | 0,_,_,_=>none
  | k + 1,x0,x1,x5=>if x5 < (x0.length:Int) then (bellpullref01_Before.j1 k x0 x1 x5 (decide (x5 < (x1.length:Int)))) else (bellpullref01_Before.j1 k x0 x1 x5 false)
def bellpullref01_Before.j1:Nat → List Int → List Int → Int → Bool → Option (Bool)
  | 0,_,_,_,_=>none
  | k + 1,x0,x1,x5,x15=>if x15=true then (if 0 ≤ x5 then (if x5 < (x0.length:Int) then (if x5 < (x1.length:Int) then (if (rd x0 x5)=(rd x1 x5) then (bellpullref01_Before.l0 k x0 x1 (wrap64 (x5 + 1))) else (some (decide ((rd x0 x5) < (rd x1 x5))))) else (none)) else (none)) else (none)) else (some (decide ((x0.length:Int) < (x1.length:Int))))
end
def bellpullref01_Before.f (k:Nat) (l0:List Int) (l1:List Int):Option (Bool):=bellpullref01_Before.l0 k l0 l1 0
theorem bellpullref01_Before.mono_l:∀ k,(∀ y0 y1 y2,LeO (bellpullref01_Before.l0 k y0 y1 y2) (bellpullref01_Before.l0 (k + 1) y0 y1 y2))∧(∀ y0 y1 y2 y3,LeO (bellpullref01_Before.j1 k y0 y1 y2 y3) (bellpullref01_Before.j1 (k + 1) y0 y1 y2 y3))
  | 0=>⟨fun _ _ _ r h=>by simp [bellpullref01_Before.l0] at h,fun _ _ _ _ r h=>by simp [bellpullref01_Before.j1] at h⟩
  | k + 1=>by
    obtain ⟨ih0,ih1⟩:=bellpullref01_Before.mono_l k
    refine ⟨?_,?_⟩
    · intro y0 y1 y2
      unfold bellpullref01_Before.l0
      with_reducible repeat' first|exact ih0 _ _ _|exact ih1 _ _ _ _|exact LeO.refl _|exact LeO.none _|refine LeO.ite ?_ ?_|refine LeO.bind ?_ (fun _=>?_)
    · intro y0 y1 y2 y3
      unfold bellpullref01_Before.j1
      with_reducible repeat' first|exact ih0 _ _ _|exact ih1 _ _ _ _|exact LeO.refl _|exact LeO.none _|refine LeO.ite ?_ ?_|refine LeO.bind ?_ (fun _=>?_)
theorem bellpullref01_Before.mono:∀ a0 a1 k,LeO (bellpullref01_Before.f k a0 a1) (bellpullref01_Before.f (k + 1) a0 a1):=by
  intro a0 a1 k
  obtain ⟨ih0,ih1⟩:=bellpullref01_Before.mono_l k
  unfold bellpullref01_Before.f
  with_reducible repeat' first|exact ih0 _ _ _|exact ih1 _ _ _ _|exact LeO.refl _|exact LeO.none _|refine LeO.ite ?_ ?_|refine LeO.bind ?_ (fun _=>?_)
set_option maxHeartbeats 8000000 in
set_option maxRecDepth 100000 in
theorem bellpullref01_Before.calls (k:Nat) (A0:Option Addr) (c0:Nat) (l0:List Int) (A1:Option Addr) (c1:Nat) (l1:List Int) (r:Bool) (w:World) (hr0:Kd.C (Kd.int .i64) w A0 l0.length l0) (hc0:l0.length ≤ c0) (hr1:Kd.C (Kd.int .i64) w A1 l1.length l1) (hc1:l1.length ≤ c1) (h:bellpullref01_Before.f k l0 l1=some r) :
    Calls Try.prog 60 #[.slice A0 l0.length c0,.slice A1 l1.length c1] w fun e w'=>e=.returned (.bool r)∧Drawn0 w w':=by
 have HR0:=mk0 hr0;have HC0:=mk0 hc0;clear hr0 hc0;have HR1:=mk0 hr1;have HC1:=mk0 hc1;clear hr1 hc1;have H:(bellpullref01_Before.l0 k l0 l1 0)=some r:=h;clear h;have H':=mk0 H;clear H;go_enter Try.func60,Try.ntmps60;go_wp2;repeat (go_quiet (fail);try go_wp2)
 go_loopg [5] k (fun kq v5 w'=>∃ (x5_1:Int),v5=.int .i64 x5_1∧Aside0 (bellpullref01_Before.l0 kq l0 l1 x5_1=some r)∧Aside0 (kq ≤ k)∧Drawn0 w w')
 case atStart=>exact ⟨(0),(by first|rfl|(simp;done)|(simp [*];done)),H',⟨Nat.le_refl _⟩,by repeat (first|exact Drawn0.refl _|apply Drawn0.step)⟩
 case round =>
  clear H';try clear c1
  try clear p2
  obtain ⟨x5_1,rfl,HA,HK1,⟨m1,rfl⟩⟩:=hrel;cases gk with
  | zero=>exact absurd HA.out (by simp [bellpullref01_Before.l0])
  | succ k1 =>
   have H:=HA.out;clear HA;simp only [bellpullref01_Before.l0] at H;have HC3:=mk0 H;clear H;go_upto_region 2 with (fail);repeat (go_quiet (fail);go_upto_region 2 with (fail))
   go_cut [15] (fun v15 wc=>∃ (kq:Nat) (x15_2:Bool),v15=.bool x15_2∧Aside0 (bellpullref01_Before.j1 kq l0 l1 x5_1 x15_2=some r)∧Aside0 (kq ≤ k1)∧Drawn0 w wc)
   case first =>
    have H:=HC3.out;clear HC3
    by_cases c4:x5_1 < (l0.length:Int)
    ·
     rw [if_pos c4] at H;have c4b0:decide (x5_1 < (l0.length:Int))=true:=decide_eq_true c4;clear c4;(first|rw [c4b0]|(simp only [i64_w,i32_w];rw [c4b0])|skip);have H':=mk0 H;clear H;go_wp2;repeat (go_quiet (fail);try go_wp2)
     go_meet
     case rel=>exact ⟨_,(decide (x5_1 < (l1.length:Int))),(by first|rfl|(simp;done)|(simp [*];done)),H',⟨by have:=HK1.out;first|omega|exact Nat.le_refl _⟩,by repeat (first|exact Drawn0.refl _|apply Drawn0.step)⟩
    ·
     rw [if_neg c4] at H;have c4b0:decide (x5_1 < (l0.length:Int))=false:=decide_eq_false c4;clear c4;(first|rw [c4b0]|(simp only [i64_w,i32_w];rw [c4b0])|skip);have H':=mk0 H;clear H;go_wp2;repeat (go_quiet (fail);try go_wp2)
     go_meet
     case rel=>exact ⟨_,(false),(by first|rfl|(simp;done)|(simp [*];done)),H',⟨by have:=HK1.out;first|omega|exact Nat.le_refl _⟩,by repeat (first|exact Drawn0.refl _|apply Drawn0.step)⟩
   case rest =>
    clear HC3;try clear c1
    try clear p2
    try clear c4
    try clear c4b0
    try clear p2
    obtain ⟨kq,x15_2,rfl,HA,HJ2,⟨mc2,rfl⟩⟩:=hcut;cases kq with
    | zero=>exact absurd HA.out (by simp [bellpullref01_Before.j1])
    | succ kj2 =>
     have H:=HA.out;clear HA;simp only [bellpullref01_Before.j1] at H
     by_cases c5:x15_2=true
     ·
      subst c5;have H1:(if 0 ≤ x5_1 then (if x5_1 < (l0.length:Int) then (if x5_1 < (l1.length:Int) then (if (rd l0 x5_1)=(rd l1 x5_1) then (bellpullref01_Before.l0 kj2 l0 l1 (wrap64 (x5_1 + 1))) else (some (decide ((rd l0 x5_1) < (rd l1 x5_1))))) else (none)) else (none)) else (none))=some r:=by rw [if_pos rfl] at H;exact H
      clear H;have H:=H1;clear H1
      by_cases c6:0 ≤ x5_1
      ·
       rw [if_pos c6] at H;have c6b0:decide (0 ≤ x5_1)=true:=decide_eq_true c6;clear c6
       by_cases c7:x5_1 < (l0.length:Int)
       ·
        rw [if_pos c7] at H;have c7b0:decide (x5_1 < (l0.length:Int))=true:=decide_eq_true c7;clear c7
        by_cases c8:x5_1 < (l1.length:Int)
        ·
         rw [if_pos c8] at H;have c8b0:decide (x5_1 < (l1.length:Int))=true:=decide_eq_true c8;clear c8
         by_cases c9:(rd l0 x5_1)=(rd l1 x5_1)
         ·
          rw [if_pos c9] at H;have c9b0:((rd l0 x5_1) == (rd l1 x5_1))=true:=beq_iff_eq.mpr c9;have c9b1:((rd l0 x5_1) != (rd l1 x5_1))=false:=bne_eq_false_iff_eq.mpr c9;clear c9;have H':=mk0 H;clear H;have p282:0 ≤ (x5_1:Int):=of_decide_eq_true (by first|(with_reducible assumption)|assumption);have q282:x5_1 < (l0.length:Int):=of_decide_eq_true (by first|(with_reducible assumption)|assumption);obtain ⟨ad282,e282,hx282_0⟩:=Kd.at_int HR0.out x5_1 p282 q282;cases e282;replace p282:=eq_true p282;replace q282:=eq_true q282;have p283:0 ≤ (x5_1:Int):=of_decide_eq_true (by first|(with_reducible assumption)|assumption);have q283:x5_1 < (l1.length:Int):=of_decide_eq_true (by first|(with_reducible assumption)|assumption);obtain ⟨ad283,e283,hx283_0⟩:=Kd.at_int HR1.out x5_1 p283 q283;cases e283;replace p283:=eq_true p283;replace q283:=eq_true q283;go_wp2;repeat (go_quiet (fail);try go_wp2)
          go_roundg kj2
          case measure=>have:=HK1.out;have:=HJ2.out;omega
          case rel=>exact ⟨(wrap64 (x5_1 + 1)),(by first|rfl|(simp;done)|(simp [*];done)),H',⟨by have:=HK1.out;have:=HJ2.out;omega⟩,by repeat (first|exact Drawn0.refl _|apply Drawn0.step)⟩
         ·
          rw [if_neg c9] at H;have c9b0:((rd l0 x5_1) == (rd l1 x5_1))=false:=beq_eq_false_iff_ne.mpr c9;have c9b1:((rd l0 x5_1) != (rd l1 x5_1))=true:=bne_iff_ne.mpr c9;obtain rfl:=Option.some.inj H;have p282:0 ≤ (x5_1:Int):=of_decide_eq_true (by first|(with_reducible assumption)|assumption);have q282:x5_1 < (l0.length:Int):=of_decide_eq_true (by first|(with_reducible assumption)|assumption);obtain ⟨ad282,e282,hx282_0⟩:=Kd.at_int HR0.out x5_1 p282 q282;cases e282;replace p282:=eq_true p282;replace q282:=eq_true q282;have p283:0 ≤ (x5_1:Int):=of_decide_eq_true (by first|(with_reducible assumption)|assumption);have q283:x5_1 < (l1.length:Int):=of_decide_eq_true (by first|(with_reducible assumption)|assumption);obtain ⟨ad283,e283,hx283_0⟩:=Kd.at_int HR1.out x5_1 p283 q283;cases e283;replace p283:=eq_true p283;replace q283:=eq_true q283;have p284:0 ≤ (x5_1:Int):=of_decide_eq_true (by first|(with_reducible assumption)|assumption);have q284:x5_1 < (l0.length:Int):=of_decide_eq_true (by first|(with_reducible assumption)|assumption);obtain ⟨ad284,e284,hx284_0⟩:=Kd.at_int HR0.out x5_1 p284 q284;obtain rfl:ad282=ad284:=(by injection e284)
          replace p284:=eq_true p284;replace q284:=eq_true q284;have p285:0 ≤ (x5_1:Int):=of_decide_eq_true (by first|(with_reducible assumption)|assumption);have q285:x5_1 < (l1.length:Int):=of_decide_eq_true (by first|(with_reducible assumption)|assumption);obtain ⟨ad285,e285,hx285_0⟩:=Kd.at_int HR1.out x5_1 p285 q285;obtain rfl:ad283=ad285:=(by injection e285)
          replace p285:=eq_true p285;replace q285:=eq_true q285;go_wp2;repeat (go_quiet (fail);try go_wp2)
          go_ret;exact ⟨by first|rfl|(simp;done)|(simp [*];done),by repeat (first|exact Drawn0.refl _|apply Drawn0.step)⟩
        ·
         rw [if_neg c8] at H;exact absurd H (by simp)
       ·
        rw [if_neg c7] at H;exact absurd H (by simp)
      ·
       rw [if_neg c6] at H;exact absurd H (by simp)
     ·
      replace c5:=Bool.eq_false_iff.mpr c5;subst c5;have H1:(some (decide ((l0.length:Int) < (l1.length:Int))))=some r:=by rw [if_neg (show ¬ (false=true) by decide)] at H;exact H
      clear H;have H:=H1;clear H1;obtain rfl:=Option.some.inj H;go_wp2;repeat (go_quiet (fail);try go_wp2)
      go_ret;exact ⟨by first|rfl|(simp;done)|(simp [*];done),by repeat (first|exact Drawn0.refl _|apply Drawn0.step)⟩
/-! ### bellpullref01_Same: function 26 -/
def bellpullref01_Same.f (k:Nat) (l0:List Int) (l1:List Int):Option (Bool):=(bellpullref01_Before.f k l0 l1).bind fun t286=>(if t286=true then (some false) else ((bellpullref01_Before.f k l1 l0).bind fun t287=>(some (!t287))))
theorem bellpullref01_Same.mono:∀ a0 a1 k,LeO (bellpullref01_Same.f k a0 a1) (bellpullref01_Same.f (k + 1) a0 a1):=by
  intro a0 a1 k
  unfold bellpullref01_Same.f
  with_reducible repeat' first|exact bellpullref01_Before.mono _ _ _|exact LeO.refl _|exact LeO.none _|refine LeO.ite ?_ ?_|refine LeO.bind ?_ (fun _=>?_)
set_option maxHeartbeats 8000000 in
set_option maxRecDepth 100000 in
theorem bellpullref01_Same.calls (k:Nat) (A0:Option Addr) (c0:Nat) (l0:List Int) (A1:Option Addr) (c1:Nat) (l1:List Int) (r:Bool) (w:World) (hr0:Kd.C (Kd.int .i64) w A0 l0.length l0) (hc0:l0.length ≤ c0) (hr1:Kd.C (Kd.int .i64) w A1 l1.length l1) (hc1:l1.length ≤ c1) (h:bellpullref01_Same.f k l0 l1=some r) :
    Calls Try.prog 26 #[.slice A0 l0.length c0,.slice A1 l1.length c1] w fun e w'=>e=.returned (.bool r)∧Drawn0 w w':=by
 have HR0:=mk0 hr0;have HC0:=mk0 hc0;clear hr0 hc0;have HR1:=mk0 hr1;have HC1:=mk0 hc1;clear hr1 hc1;have H:((bellpullref01_Before.f k l0 l1).bind fun t286=>(if t286=true then (some false) else ((bellpullref01_Before.f k l1 l0).bind fun t287=>(some (!t287)))))=some r:=h;clear h;replace H:=Option.bind_eq_some_iff.mp H;obtain ⟨t286,A30,H⟩:=H;(try dsimp only at H);have A3:=mk0 A30;clear A30
 by_cases c4:t286=true
 ·
  subst c4;have H1:(some false)=some r:=by rw [if_pos rfl] at H;exact H
  clear H;have H:=H1;clear H1;obtain rfl:=Option.some.inj H;go_enter Try.func26,Try.ntmps26;go_wp2_with (first|((with_reducible refine gate_callee (f:=60) rfl ?_);refine goesL_ (some 7) rfl rfl Try.func60 (by kernel_rfl) rfl #[.slice A0 l0.length c0,.slice A1 l1.length c1] rfl (by (try simp only [List.map_toArray,List.map_cons,List.map_nil]);first|done|rfl|(simp only [List.length_drop,List.length_take];rfl)) ?_;(with_reducible refine (bellpullref01_Before.calls k _ _ l0 _ _ l1 true _ ?side1 ?side2 ?side3 ?side4 A3.out).mono ?_);(case side1=>repeat (first|exact HR0.out|(with_reducible refine Kd.C_alloc ?_ _)|(with_reducible refine Kd.C_drewN ?_ _)|(with_reducible refine Kd.C_drew ?_)));(case side2=>exact HC0.out);(case side3=>repeat (first|exact HR1.out|(with_reducible refine Kd.C_alloc ?_ _)|(with_reducible refine Kd.C_drewN ?_ _)|(with_reducible refine Kd.C_drew ?_)));(case side4=>exact HC1.out);rintro e w' ⟨rfl,⟨nd,rfl⟩⟩;refine ⟨_,rfl,?_⟩));go_ret;exact ⟨by first|rfl|(simp;done)|(simp [*];done),by repeat (first|exact Drawn0.refl _|apply Drawn0.step)⟩
 ·
  replace c4:=Bool.eq_false_iff.mpr c4;subst c4;have H1:((bellpullref01_Before.f k l1 l0).bind fun t287=>(some (!t287)))=some r:=by rw [if_neg (show ¬ (false=true) by decide)] at H;exact H
  clear H;have H:=H1;clear H1;replace H:=Option.bind_eq_some_iff.mp H;obtain ⟨t287,A50,H⟩:=H;(try dsimp only at H);have A5:=mk0 A50;clear A50;obtain rfl:=Option.some.inj H;go_enter Try.func26,Try.ntmps26;go_wp2_with (first|((with_reducible refine gate_callee (f:=60) rfl ?_);refine goesL_ (some 7) rfl rfl Try.func60 (by kernel_rfl) rfl #[.slice A0 l0.length c0,.slice A1 l1.length c1] rfl (by (try simp only [List.map_toArray,List.map_cons,List.map_nil]);first|done|rfl|(simp only [List.length_drop,List.length_take];rfl)) ?_;(with_reducible refine (bellpullref01_Before.calls k _ _ l0 _ _ l1 false _ ?side1 ?side2 ?side3 ?side4 A3.out).mono ?_);(case side1=>repeat (first|exact HR0.out|(with_reducible refine Kd.C_alloc ?_ _)|(with_reducible refine Kd.C_drewN ?_ _)|(with_reducible refine Kd.C_drew ?_)));(case side2=>exact HC0.out);(case side3=>repeat (first|exact HR1.out|(with_reducible refine Kd.C_alloc ?_ _)|(with_reducible refine Kd.C_drewN ?_ _)|(with_reducible refine Kd.C_drew ?_)));(case side4=>exact HC1.out);rintro e w' ⟨rfl,⟨nd,rfl⟩⟩;refine ⟨_,rfl,?_⟩)|(go_at_call 60;(with_reducible refine (bellpullref01_Before.calls k _ _ l1 _ _ l0 t287 _ ?side1 ?side2 ?side3 ?side4 A5.out).mono ?_);(case side1=>repeat (first|exact HR1.out|(with_reducible refine Kd.C_alloc ?_ _)|(with_reducible refine Kd.C_drewN ?_ _)|(with_reducible refine Kd.C_drew ?_)));(case side2=>exact HC1.out);(case side3=>repeat (first|exact HR0.out|(with_reducible refine Kd.C_alloc ?_ _)|(with_reducible refine Kd.C_drewN ?_ _)|(with_reducible refine Kd.C_drew ?_)));(case side4=>exact HC0.out);rintro e w' ⟨rfl,⟨nd,rfl⟩⟩));go_ret;exact ⟨by first|rfl|(simp;done)|(simp [*];done),by repeat (first|exact Drawn0.refl _|apply Drawn0.step)⟩
/-! ### slices_IndexFunc_int_int: function 80 -/
/-- A bool function value: called at x, in every later world, it tells p x and lays at most new memory. -/
def Tells (g:Nat) (lb:Array Value) (p:Int → Bool) (w:World):Prop :=
  ∀ (W:World) (x:Int),Below w.heap.size w W → Calls Try.prog g (#[.int .i64 x] ++ lb) W fun e w'=>e=.returned (.bool (p x))∧Below W.heap.size W w'

def idxF (p:Int → Bool) (l:List Int):Int:=match l.findIdx? p with|some i=>(i:Int)|none=>-1
theorem idxF_some (p:Int → Bool) (l:List Int) (k:Nat) (hk:k < l.length) (h:p (rd l (k:Int))=true) (hb:∀ j,j < k → p (rd l (j:Int))=false):idxF p l=(k:Int):=by
  have:l.findIdx? p=some k:=by
    rw [List.findIdx?_eq_some_iff_getElem]
    refine ⟨hk,?_,fun j hj=>?_⟩
    · simpa [rd,List.getD_eq_getElem?_getD,List.getElem?_eq_getElem hk] using h
    · have hjl:j < l.length:=by omega
      have:=hb j hj
      simpa [rd,List.getD_eq_getElem?_getD,List.getElem?_eq_getElem hjl] using this
  simp [idxF,this]
theorem idxF_none (p:Int → Bool) (l:List Int) (hb:∀ j,j < l.length → p (rd l (j:Int))=false):idxF p l=-1:=by
  have:l.findIdx? p=none:=by
    rw [List.findIdx?_eq_none_iff]
    intro x hx
    obtain ⟨j,hj,rfl⟩:=List.getElem_of_mem hx
    have:=hb j hj
    simpa [rd,List.getD_eq_getElem?_getD,List.getElem?_eq_getElem hj] using this
  simp [idxF,this]
theorem idxF_some' (p:Int → Bool) (l:List Int) (i:Int) (h0:0 ≤ i) (h1:i < (l.length:Int)) (h:p (rd l i)=true) (hb:∀ j,j < i.toNat → p (rd l (j:Int))=false):idxF p l=i:=by
  obtain ⟨k,rfl⟩:=Int.eq_ofNat_of_zero_le h0
  exact idxF_some p l k (by omega) h (by simpa using hb)
theorem idxF_any (p:Int → Bool) (l:List Int):l.any p=decide (0 ≤ idxF p l):=by
  unfold idxF
  rcases h:l.findIdx? p with _|i
  · rw [List.findIdx?_eq_none_iff] at h
    rw [show l.any p=false from by rw [List.any_eq_false];exact fun x hx=>by simpa using h x hx]
    rfl
  · rw [List.findIdx?_eq_some_iff_getElem] at h
    obtain ⟨hi,hp,_⟩:=h
    rw [show l.any p=true from List.any_eq_true.mpr ⟨_,List.getElem_mem hi,hp⟩]
    simp
/-- What a round knows. -/
def Sofar (p:Int → Bool) (l:List Int) (k:Nat):Prop:=∀ j,j < k → p (rd l (j:Int))=false
theorem Sofar.zero (p:Int → Bool) (l:List Int):Sofar p l 0:=fun j hj=>absurd hj (by omega)
theorem Sofar.succ {p:Int → Bool} {l:List Int} {k:Nat} (h:Sofar p l k) (hk:p (rd l (k:Int))=false):Sofar p l (k + 1):=fun j hj=>by
  by_cases e:j=k
  · subst e;exact hk
  · exact h j (by omega)

set_option maxHeartbeats 1000000 in
set_option maxRecDepth 100000 in
theorem IndexFunc_int.calls (g:Nat) (lb:Array Value) (p:Int → Bool) (A0:Option Addr) (c0:Nat) (l0:List Int) (w:World) (hr0:Kd.C (Kd.int .i64) w A0 l0.length l0) (hc0:l0.length ≤ c0)
    (eg:∀ args w,(callFunc g args).run Try.prog w=.ok (.enter g args) w) (hp:Tells g lb p w) :
    Calls Try.prog 80 #[.slice A0 l0.length c0,.func (.func g) #[] lb] w fun e w'=>e=.returned (.int .i64 (idxF p l0))∧Below w.heap.size w w':=by
  have HR0:=Aside0.mk hr0
  have hlen:l0.length ≤ 9223372036854775807:=hr0.2.1
  clear hr0 hc0
  have HP:=Aside0.mk hp
  clear hp
  go_enter Try.func80,Try.ntmps80
  go_wp2
  go_loopw [8] (fun v8 w'=>∃ i:Int,v8=.int .i64 i∧Aside0 (0 ≤ i∧i ≤ l0.length)∧Aside0 (Sofar p l0 i.toNat)∧Aside0 (Below w.heap.size w w')) (fun v8 _=>l0.length - (intOf v8).toNat)
  case atStart=>exact ⟨0,rfl,⟨by omega,by omega⟩,⟨Sofar.zero _ _⟩,⟨Below.refl _ _⟩⟩
  case round =>
    obtain ⟨i,rfl,HI,HS,HB⟩:=hrel
    by_cases hlt:i < (l0.length:Int)
    · have p1:0 ≤ i:=HI.out.1
      obtain ⟨ad,e,hx⟩:=Kd.at_int HR0.out i p1 hlt
      cases e
      replace hx:=(HB.out.cell (World.block_lt_of_cell? w _ hx)).trans hx
      have hd:decide (i < (l0.length:Int))=true:=decide_eq_true hlt
      replace p1:=eq_true p1
      replace hlt:=eq_true hlt
      have hw:wrap64 (i + 1)=i + 1:=by have:=HI.out;have h:=of_eq_true hlt;unfold wrap64;omega
      have HW:=Aside0.mk hw
      clear hw
      by_cases hb:p (rd l0 i)=true
      · have HF:=Aside0.mk (idxF_some' p l0 i (of_eq_true p1) (of_eq_true hlt) hb HS.out)
        have HT:=Aside0.mk hb
        clear hb
        go_wp2_with (fail)
        refine (HP.out _ _ HB.out).mono ?_
        rintro e w1 ⟨rfl,hb1⟩
        rw [HT.out]
        have HB1:=Aside0.mk hb1
        clear hb1
        go_wp2
        go_ret
        exact ⟨by first|(rw [HF.out];done)|(rw [HF.out];rfl),HB.out.trans (HB1.out.mono HB.out.size)⟩
      · have HT:=Aside0.mk (Bool.eq_false_iff.mpr hb)
        clear hb
        go_wp2_with (fail)
        refine (HP.out _ _ HB.out).mono ?_
        rintro e w1 ⟨rfl,hb1⟩
        rw [HT.out]
        have HB1:=Aside0.mk hb1
        clear hb1
        go_wp2
        go_roundw
        case rel=>exact ⟨_,rfl,⟨by rw [HW.out];have:=HI.out;have:=of_eq_true hlt;omega⟩,⟨by rw [HW.out];have:=HI.out;rw [show (i + 1).toNat=i.toNat + 1 by omega];exact HS.out.succ (by rw [Int.toNat_of_nonneg this.1];exact HT.out)⟩,⟨HB.out.trans (HB1.out.mono HB.out.size)⟩⟩
        case measure=>simp only [intOf];have:=HW.out;have:=HI.out;have:=of_eq_true hlt;omega
    · have hd:decide (i < (l0.length:Int))=false:=decide_eq_false hlt
      have HF:=Aside0.mk (idxF_none p l0 (fun j hj=>HS.out j (by have:=HI.out;omega)))
      clear hlt
      go_wp2
      go_ret
      exact ⟨by first|(rw [HF.out];done)|(rw [HF.out];rfl),HB.out⟩


end Go.Proofs.Ytgfnmimfoicmmaa.PM
