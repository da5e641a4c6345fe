-- Written by pr2.py, a program of this session's, for this claim (through the kit's print).
import Derived.Test.YtgfnmimfoicmmaaPMx0
import Derived.Test.YtgfnmimfoicmmaaPMx3
namespace Go.Proofs.Ytgfnmimfoicmmaa.PM
open Go.Proofs.MyWords Go.RowKit Go.Proofs.YtgfnmimfoicmmaaW.PrintWords Go.Proofs.YtgfnmimfoicmmaaW.PrintLast Go.Proofs.YtgfnmimfoicmmaaW.PrintMore
attribute [local go_sem] max2_int min2_int max_two min_two max_three min_three max_four min_four   -- for this text's walks alone
set_option linter.unusedVariables false
set_option linter.unusedSimpArgs false

attribute [local go_sem] idx67_0 idx67_1 idx67_2 idx67_3
attribute [local go_sem] eqGuard_slices eqlnil36 neqnil36
/-! ### norm_divide: function 49 -/
mutual
def norm_divide.l0:Nat → Int → Int → Int → Int → Int → Int → Int → Int → Int → Int → Int → Int → Int → Int → Int → Int → Int → Int → Int → Option (Int × Int × Int × Int × Int × Int × Int × Int)
  | 0,_,_,_,_,_,_,_,_,_,_,_,_,_,_,_,_,_,_,_=>none
  | k + 1,x6,x9,x22,x148000,x148001,x148002,x148003,x149000,x149001,x149002,x149003,x161000,x161001,x161002,x161003,x162000,x162001,x162002,x162003=>if x22 < 2 then (norm_divide.l1 k x6 x9 x22 0 x22 0 x161003 x161002 x161001 x161000 x148000 x148001 x148002 x148003 x149000 x149001 x149002 x149003 x161000 x161001 x161002 x161003 x162000 x162001 x162002 x162003 0 0 0 0) else ((norm_product.f k (([(⟨x162000,x162001,x162002,x162003⟩:S67),(⟨x149000,x149001,x149002,x149003⟩:S67)]:List (S67)))).bind fun bt165=>((norm_quat_minus.f k x148000 x148001 x148002 x148003 bt165.1 bt165.2.1 bt165.2.2.1 bt165.2.2.2).bind fun bt169=>(some (x162000,x162001,x162002,x162003,bt169.1,bt169.2.1,bt169.2.2.1,bt169.2.2.2))))
def norm_divide.l1:Nat → Int → Int → Int → Int → Int → Int → Int → Int → Int → Int → Int → Int → Int → Int → Int → Int → Int → Int → Int → Int → Int → Int → Int → Int → Int → Int → Int → Int → Int → Int → Option (Int × Int × Int × Int × Int × Int × Int × Int)
  | 0,_,_,_,_,_,_,_,_,_,_,_,_,_,_,_,_,_,_,_,_,_,_,_,_,_,_,_,_,_,_=>none
  | k + 1,x6,x9,x10,x12,x22,x26,x968,x969,x970,x971,x148000,x148001,x148002,x148003,x149000,x149001,x149002,x149003,x161000,x161001,x161002,x161003,x162000,x162001,x162002,x162003,x174000,x174001,x174002,x174003=>if x26 < 4 then (if x26=0 then ((norm_nearest.f x971 (wrap64 (2 * x6)) x10).bind fun t174=>(norm_divide.l1 k x6 x9 x10 (wrap64 (x12 + (wrap64 ((wrap64 (x971 - (wrap64 ((wrap64 (t174 * 2)) * x6)))) * (wrap64 (x971 - (wrap64 ((wrap64 (t174 * 2)) * x6)))))))) x22 1 x968 x969 x970 x971 x148000 x148001 x148002 x148003 x149000 x149001 x149002 x149003 x161000 x161001 x161002 x161003 x162000 x162001 x162002 x162003 t174 x174001 x174002 x174003)) else (if x26=1 then ((norm_nearest.f x970 (wrap64 (2 * x6)) x10).bind fun t175=>(norm_divide.l1 k x6 x9 x10 (wrap64 (x12 + (wrap64 ((wrap64 (x970 - (wrap64 ((wrap64 (t175 * 2)) * x6)))) * (wrap64 (x970 - (wrap64 ((wrap64 (t175 * 2)) * x6)))))))) x22 2 x968 x969 x970 x971 x148000 x148001 x148002 x148003 x149000 x149001 x149002 x149003 x161000 x161001 x161002 x161003 x162000 x162001 x162002 x162003 x174000 t175 x174002 x174003)) else (if x26=2 then ((norm_nearest.f x969 (wrap64 (2 * x6)) x10).bind fun t176=>(norm_divide.l1 k x6 x9 x10 (wrap64 (x12 + (wrap64 ((wrap64 (x969 - (wrap64 ((wrap64 (t176 * 2)) * x6)))) * (wrap64 (x969 - (wrap64 ((wrap64 (t176 * 2)) * x6)))))))) x22 3 x968 x969 x970 x971 x148000 x148001 x148002 x148003 x149000 x149001 x149002 x149003 x161000 x161001 x161002 x161003 x162000 x162001 x162002 x162003 x174000 x174001 t176 x174003)) else (if x26=3 then ((norm_nearest.f x968 (wrap64 (2 * x6)) x10).bind fun t177=>(norm_divide.l1 k x6 x9 x10 (wrap64 (x12 + (wrap64 ((wrap64 (x968 - (wrap64 ((wrap64 (t177 * 2)) * x6)))) * (wrap64 (x968 - (wrap64 ((wrap64 (t177 * 2)) * x6)))))))) x22 4 x968 x969 x970 x971 x148000 x148001 x148002 x148003 x149000 x149001 x149002 x149003 x161000 x161001 x161002 x161003 x162000 x162001 x162002 x162003 x174000 x174001 x174002 t177)) else (none))))) else (if x9 < 0 then (norm_divide.l0 k x6 x12 (wrap64 (x22 + 1)) x148000 x148001 x148002 x148003 x149000 x149001 x149002 x149003 x161000 x161001 x161002 x161003 x174000 x174001 x174002 x174003) else (if x12 < x9 then (norm_divide.l0 k x6 x12 (wrap64 (x22 + 1)) x148000 x148001 x148002 x148003 x149000 x149001 x149002 x149003 x161000 x161001 x161002 x161003 x174000 x174001 x174002 x174003) else (if x12=x9 then ((slices_Compare_int_int.f k [x174000,x174001,x174002,x174003] [x162000,x162001,x162002,x162003]).bind fun t178=>(if t178 < 0 then (norm_divide.l0 k x6 x12 (wrap64 (x22 + 1)) x148000 x148001 x148002 x148003 x149000 x149001 x149002 x149003 x161000 x161001 x161002 x161003 x174000 x174001 x174002 x174003) else (norm_divide.l0 k x6 x9 (wrap64 (x22 + 1)) x148000 x148001 x148002 x148003 x149000 x149001 x149002 x149003 x161000 x161001 x161002 x161003 x162000 x162001 x162002 x162003))) else (norm_divide.l0 k x6 x9 (wrap64 (x22 + 1)) x148000 x148001 x148002 x148003 x149000 x149001 x149002 x149003 x161000 x161001 x161002 x161003 x162000 x162001 x162002 x162003))))
end
def norm_divide.f (k:Nat) (a0_0:Int) (a0_1:Int) (a0_2:Int) (a0_3:Int) (a1_0:Int) (a1_1:Int) (a1_2:Int) (a1_3:Int):Option (Int × Int × Int × Int × Int × Int × Int × Int):=(norm_quat_norm.f a1_0 a1_1 a1_2 a1_3).bind fun t151=>((norm_quat_conj.f a1_0 a1_1 a1_2 a1_3).bind fun bt152=>((norm_quat_double.f a0_0 a0_1 a0_2 a0_3 bt152.1 bt152.2.1 bt152.2.2.1 bt152.2.2.2).bind fun bt156=>(norm_divide.l0 k t151 (-1) 0 a0_0 a0_1 a0_2 a0_3 a1_0 a1_1 a1_2 a1_3 bt156.1 bt156.2.1 bt156.2.2.1 bt156.2.2.2 0 0 0 0)))
theorem norm_divide.mono_l:∀ k,(∀ y0 y1 y2 y3 y4 y5 y6 y7 y8 y9 y10 y11 y12 y13 y14 y15 y16 y17 y18,LeO (norm_divide.l0 k y0 y1 y2 y3 y4 y5 y6 y7 y8 y9 y10 y11 y12 y13 y14 y15 y16 y17 y18) (norm_divide.l0 (k + 1) y0 y1 y2 y3 y4 y5 y6 y7 y8 y9 y10 y11 y12 y13 y14 y15 y16 y17 y18))∧(∀ y0 y1 y2 y3 y4 y5 y6 y7 y8 y9 y10 y11 y12 y13 y14 y15 y16 y17 y18 y19 y20 y21 y22 y23 y24 y25 y26 y27 y28 y29,LeO (norm_divide.l1 k y0 y1 y2 y3 y4 y5 y6 y7 y8 y9 y10 y11 y12 y13 y14 y15 y16 y17 y18 y19 y20 y21 y22 y23 y24 y25 y26 y27 y28 y29) (norm_divide.l1 (k + 1) y0 y1 y2 y3 y4 y5 y6 y7 y8 y9 y10 y11 y12 y13 y14 y15 y16 y17 y18 y19 y20 y21 y22 y23 y24 y25 y26 y27 y28 y29))
  | 0=>⟨fun _ _ _ _ _ _ _ _ _ _ _ _ _ _ _ _ _ _ _ r h=>by simp [norm_divide.l0] at h,fun _ _ _ _ _ _ _ _ _ _ _ _ _ _ _ _ _ _ _ _ _ _ _ _ _ _ _ _ _ _ r h=>by simp [norm_divide.l1] at h⟩
  | k + 1=>by
    obtain ⟨ih0,ih1⟩:=norm_divide.mono_l k
    refine ⟨?_,?_⟩
    · intro y0 y1 y2 y3 y4 y5 y6 y7 y8 y9 y10 y11 y12 y13 y14 y15 y16 y17 y18
      unfold norm_divide.l0
      with_reducible repeat' first|exact ih0 _ _ _ _ _ _ _ _ _ _ _ _ _ _ _ _ _ _ _|exact ih1 _ _ _ _ _ _ _ _ _ _ _ _ _ _ _ _ _ _ _ _ _ _ _ _ _ _ _ _ _ _|exact norm_product.mono _ _|exact norm_quat_minus.mono _ _ _ _ _ _ _ _ _|exact slices_Compare_int_int.mono _ _ _|exact LeO.refl _|exact LeO.none _|refine LeO.ite ?_ ?_|refine LeO.bind ?_ (fun _=>?_)
    · intro y0 y1 y2 y3 y4 y5 y6 y7 y8 y9 y10 y11 y12 y13 y14 y15 y16 y17 y18 y19 y20 y21 y22 y23 y24 y25 y26 y27 y28 y29
      unfold norm_divide.l1
      with_reducible repeat' first|exact ih0 _ _ _ _ _ _ _ _ _ _ _ _ _ _ _ _ _ _ _|exact ih1 _ _ _ _ _ _ _ _ _ _ _ _ _ _ _ _ _ _ _ _ _ _ _ _ _ _ _ _ _ _|exact norm_product.mono _ _|exact norm_quat_minus.mono _ _ _ _ _ _ _ _ _|exact slices_Compare_int_int.mono _ _ _|exact LeO.refl _|exact LeO.none _|refine LeO.ite ?_ ?_|refine LeO.bind ?_ (fun _=>?_)
theorem norm_divide.mono:∀ a0 a1 a2 a3 a4 a5 a6 a7 k,LeO (norm_divide.f k a0 a1 a2 a3 a4 a5 a6 a7) (norm_divide.f (k + 1) a0 a1 a2 a3 a4 a5 a6 a7):=by
  intro a0 a1 a2 a3 a4 a5 a6 a7 k
  obtain ⟨ih0,ih1⟩:=norm_divide.mono_l k
  unfold norm_divide.f
  with_reducible repeat' first|exact ih0 _ _ _ _ _ _ _ _ _ _ _ _ _ _ _ _ _ _ _|exact ih1 _ _ _ _ _ _ _ _ _ _ _ _ _ _ _ _ _ _ _ _ _ _ _ _ _ _ _ _ _ _|exact norm_product.mono _ _|exact norm_quat_minus.mono _ _ _ _ _ _ _ _ _|exact slices_Compare_int_int.mono _ _ _|exact LeO.refl _|exact LeO.none _|refine LeO.ite ?_ ?_|refine LeO.bind ?_ (fun _=>?_)
def norm_divide.T17:Bool × List (List Nat × List Nat):=(true,[([],[]),([0],[0]),([1],[1]),([2],[2]),([2],[2]),([3,4,2],[2,3,4]),([2,5],[2,5]),([6,2],[6]),([7],[7]),([7],[7]),([8,9,7],[7,8,9]),([10,7,7],[7,10]),([11],[11]),([11],[11]),([12,13,11,11],[11,12,13]),([14,11],[11,14]),([11,15,7],[7,11,15]),([7,16],[7,16])])
def norm_divide.B17:List Nat:=[0,1,3,7,7,31,63,127,255,255,1023,2047,4095,4095,16383,32767,65535,131071]
theorem norm_divide.tab17:rtab .any (opsOf Try.f49 17)=norm_divide.T17:=by kernel_rfl
theorem norm_divide.bits17:waitsOk norm_divide.T17.2 norm_divide.B17=true:=by kernel_rfl
def norm_divide.T20:Bool × List (List Nat × List Nat):=(true,[([],[]),([],[]),([],[]),([],[]),([2,3],[2,3]),([4],[4]),([1,5,5],[1,5]),([0,6,0],[0]),([6,7,0,1,2,3,4,5,6,7],[6])])
def norm_divide.B20:List Nat:=[0,0,0,0,12,28,62,127,255]
theorem norm_divide.tab20:rtab .any (opsOf Try.f49 20)=norm_divide.T20:=by kernel_rfl
theorem norm_divide.bits20:waitsOk norm_divide.T20.2 norm_divide.B20=true:=by kernel_rfl
set_option maxHeartbeats 8000000 in
set_option maxRecDepth 100000 in
theorem norm_divide.calls (k:Nat) (a0_0:Int) (a0_1:Int) (a0_2:Int) (a0_3:Int) (a1_0:Int) (a1_1:Int) (a1_2:Int) (a1_3:Int) (r1:Int) (r2:Int) (r3:Int) (r4:Int) (r5:Int) (r6:Int) (r7:Int) (r8:Int) (w:World) (h:norm_divide.f k a0_0 a0_1 a0_2 a0_3 a1_0 a1_1 a1_2 a1_3=some (r1,r2,r3,r4,r5,r6,r7,r8)) :
    Calls Try.prog 49 #[.agg #[.int .i64 a0_0,.int .i64 a0_1,.int .i64 a0_2,.int .i64 a0_3],.agg #[.int .i64 a1_0,.int .i64 a1_1,.int .i64 a1_2,.int .i64 a1_3]] w fun e w'=>e=.returned (.tuple #[.agg #[.int .i64 r1,.int .i64 r2,.int .i64 r3,.int .i64 r4],.agg #[.int .i64 r5,.int .i64 r6,.int .i64 r7,.int .i64 r8]])∧Below w.heap.size w w':=by
 have hu67:=Try.underlying67;have HB:=mk0 (Below.refl w.heap.size w);have H:((norm_quat_norm.f a1_0 a1_1 a1_2 a1_3).bind fun t151=>((norm_quat_conj.f a1_0 a1_1 a1_2 a1_3).bind fun bt152=>((norm_quat_double.f a0_0 a0_1 a0_2 a0_3 bt152.1 bt152.2.1 bt152.2.2.1 bt152.2.2.2).bind fun bt156=>(norm_divide.l0 k t151 (-1) 0 a0_0 a0_1 a0_2 a0_3 a1_0 a1_1 a1_2 a1_3 bt156.1 bt156.2.1 bt156.2.2.1 bt156.2.2.2 0 0 0 0))))=some (r1,r2,r3,r4,r5,r6,r7,r8):=h;clear h;replace H:=Option.bind_eq_some_iff.mp H;obtain ⟨t151,A30,H⟩:=H;(try dsimp only at H);have A3:=mk0 A30;clear A30;replace H:=Option.bind_eq_some_iff.mp H;obtain ⟨⟨t152,t153,t154,t155⟩,A40,H⟩:=H;(try dsimp only at H);have A4:=mk0 A40;clear A40;replace H:=Option.bind_eq_some_iff.mp H;obtain ⟨⟨t156,t157,t158,t159⟩,A50,H⟩:=H;(try dsimp only at H);have A5:=mk0 A50;clear A50;have H':=mk0 H;clear H;go_enter Try.func49,Try.ntmps49;try go_wp2_with (first|((with_reducible refine gate_dst (N:=2) rfl ?_);refine box_event ?hg (N:=2) ?hd (cs:=#[.int .i64 a0_0,.int .i64 a0_1,.int .i64 a0_2,.int .i64 a0_3]) (t:=67) ?hr ?_;(case hd=>rfl);(case hg=>rfl);(case hr=>first|(go_simp;done)|(go_simp;rfl));intro gb147 hg w6 hbox hb;have BK147:=mk0 (hbox);have GW147:=szw hg HB;have GE147:=GW147;replace HB:=bst HB hb;clear hb hbox hg)|((with_reducible refine gate_dst (N:=3) rfl ?_);refine box_event ?hg (N:=3) ?hd (cs:=#[.int .i64 a1_0,.int .i64 a1_1,.int .i64 a1_2,.int .i64 a1_3]) (t:=67) ?hr ?_;(case hd=>rfl);(case hg=>rfl);(case hr=>first|(go_simp;done)|(go_simp;rfl));intro gb148 hg w7 hbox hb;have BK148:=mk0 (hbox);have GW148:=szw hg HB;have GE148:=GW148;have NB147_148:=nlt hg BK147;have NB148_147:=ngt hg BK147;replace BK147:=bkb BK147 hb;replace HB:=bst HB hb;clear hb hbox hg)|((with_reducible refine gate_dst (N:=4) rfl ?_);refine box_event ?hg (N:=4) ?hd (cs:=#[.int .i64 0,.int .i64 0,.int .i64 0,.int .i64 0]) (t:=67) ?hr ?_;(case hd=>rfl);(case hg=>rfl);(case hr=>first|(go_simp;done)|(go_simp;rfl));intro gb149 hg w8 hbox hb;have BK149:=mk0 (hbox);have GW149:=szw hg HB;have GE149:=GW149;have NB147_149:=nlt hg BK147;have NB149_147:=ngt hg BK147;have NB148_149:=nlt hg BK148;have NB149_148:=ngt hg BK148;replace BK147:=bkb BK147 hb;replace BK148:=bkb BK148 hb;replace HB:=bst HB hb;clear hb hbox hg)|((with_reducible refine gate_dst (N:=5) rfl ?_);refine box_event ?hg (N:=5) ?hd (cs:=#[.int .i64 0,.int .i64 0,.int .i64 0,.int .i64 0]) (t:=67) ?hr ?_;(case hd=>rfl);(case hg=>rfl);(case hr=>first|(go_simp;done)|(go_simp;rfl));intro gb150 hg w9 hbox hb;have BK150:=mk0 (hbox);have GW150:=szw hg HB;have GE150:=GW150;have NB147_150:=nlt hg BK147;have NB150_147:=ngt hg BK147;have NB148_150:=nlt hg BK148;have NB150_148:=ngt hg BK148;have NB149_150:=nlt hg BK149;have NB150_149:=ngt hg BK149;replace BK147:=bkb BK147 hb;replace BK148:=bkb BK148 hb;replace BK149:=bkb BK149 hb;replace HB:=bst HB hb;clear hb hbox hg;have hnb10:=NB148_147.out;have hnc10:=NB147_148.out;have hnb11:=NB148_149.out;have hnc11:=NB149_148.out;have hnb12:=NB148_150.out;have hnc12:=NB150_148.out;have hcz13_0:w9.cell? ⟨gb148,0,none⟩=some (.int .i64 a1_0):=(blk_cell BK148.out 0).trans rfl;have hcz13_1:w9.cell? ⟨gb148,1,none⟩=some (.int .i64 a1_1):=(blk_cell BK148.out 1).trans rfl;have hcz13_2:w9.cell? ⟨gb148,2,none⟩=some (.int .i64 a1_2):=(blk_cell BK148.out 2).trans rfl;have hcz13_3:w9.cell? ⟨gb148,3,none⟩=some (.int .i64 a1_3):=(blk_cell BK148.out 3).trans rfl;have hfz13_0:=blk_frozen BK148.out 0;have hfz13_1:=blk_frozen BK148.out 1;have hfz13_2:=blk_frozen BK148.out 2;have hfz13_3:=blk_frozen BK148.out 3)|((with_reducible refine gate_callee (f:=66) rfl ?_);refine goesL_ (some 17) rfl rfl Try.func66 (by kernel_rfl) rfl #[.agg #[.int .i64 a1_0,.int .i64 a1_1,.int .i64 a1_2,.int .i64 a1_3]] rfl (by (try simp only [List.map_toArray,List.map_cons,List.map_nil]);first|done|rfl|(simp only [List.length_drop,List.length_take];rfl)) ?_;(with_reducible refine (norm_quat_norm.calls a1_0 a1_1 a1_2 a1_3 t151 _ A3.out).mono ?_);rintro e w14 ⟨rfl,hb⟩;refine ⟨_,rfl,?_⟩;replace BK147:=bkb BK147 hb;replace BK148:=bkb BK148 hb;replace BK149:=bkb BK149 hb;replace BK150:=bkb BK150 hb;replace HB:=bst HB hb;(try clear hb)))
 replace BK147:=bdr BK147;replace BK148:=bdr BK148;replace BK149:=bdr BK149;replace BK150:=bdr BK150;replace HB:=hdr HB;refine start_ (n:=6) (S:=fun w'=>w'.cell? ⟨gb147,0,none⟩=some (.int .i64 a0_0)∧w'.cell? ⟨gb147,1,none⟩=some (.int .i64 a0_1)∧w'.cell? ⟨gb147,2,none⟩=some (.int .i64 a0_2)∧w'.cell? ⟨gb147,3,none⟩=some (.int .i64 a0_3)∧w'.cell? ⟨gb148,0,none⟩=some (.int .i64 a1_0)∧w'.cell? ⟨gb148,1,none⟩=some (.int .i64 a1_1)∧w'.cell? ⟨gb148,2,none⟩=some (.int .i64 a1_2)∧w'.cell? ⟨gb148,3,none⟩=some (.int .i64 a1_3)) (ds:=[]) #[false,false,false,false,false,false] (by kernel_rfl) rfl rfl ⟨(blk_cell BK147.out 0).trans rfl,(blk_cell BK147.out 1).trans rfl,(blk_cell BK147.out 2).trans rfl,(blk_cell BK147.out 3).trans rfl,(blk_cell BK148.out 0).trans rfl,(blk_cell BK148.out 1).trans rfl,(blk_cell BK148.out 2).trans rfl,(blk_cell BK148.out 3).trans rfl⟩ (fun hHeld=>?_);generalize w14.drew=w15 at BK147 BK148 BK149 BK150 HB hHeld ⊢;refine take_ (i:=0) (N:=some 18) (v:=?_) (a':=?_) #[true,false,false,false,false,false] rfl rfl (by kernel_rfl) (fun _ _ _ h=>h) (Or.inl ⟨by rfl,?_⟩) hHeld ?_ ?_;rotate_left
 ·
  rintro w' ⟨s0,s1,s2,s3,s4,s5,s6,s7⟩;go_simp;with_reducible rfl
 rotate_left
 ·
  simp only [Act.put,List.setIfInBounds_toArray,List.set_cons_zero,List.set_cons_succ,i64_w,i32_w];rfl
 refine take_ (i:=1) (N:=some 19) (v:=?_) (a':=?_) #[true,true,false,false,false,false] rfl rfl (by kernel_rfl) (fun _ _ _ h=>h) (Or.inl ⟨by rfl,?_⟩) hHeld ?_ ?_;rotate_left
 ·
  rintro w' ⟨s0,s1,s2,s3,s4,s5,s6,s7⟩;go_simp;with_reducible rfl
 rotate_left
 ·
  simp only [Act.put,List.setIfInBounds_toArray,List.set_cons_zero,List.set_cons_succ,i64_w,i32_w];rfl
 refine join_ (σ:=Nat) 1 #[true,true,true,true,true,false] (fun s_=>[(20,.agg #[.int .i64 t152,.int .i64 t153,.int .i64 t154,.int .i64 t155]),(21,.agg #[.int .i64 t156,.int .i64 t157,.int .i64 t158,.int .i64 t159]),(7,.pointer (some ⟨s_,0,none⟩))]) (fun s_ w'=>(w'.cell? ⟨gb147,0,none⟩=some (.int .i64 a0_0)∧w'.cell? ⟨gb147,1,none⟩=some (.int .i64 a0_1)∧w'.cell? ⟨gb147,2,none⟩=some (.int .i64 a0_2)∧w'.cell? ⟨gb147,3,none⟩=some (.int .i64 a0_3)∧w'.cell? ⟨gb148,0,none⟩=some (.int .i64 a1_0)∧w'.cell? ⟨gb148,1,none⟩=some (.int .i64 a1_1)∧w'.cell? ⟨gb148,2,none⟩=some (.int .i64 a1_2)∧w'.cell? ⟨gb148,3,none⟩=some (.int .i64 a1_3))∧(w'.heap[gb147]?=some (.cells #[.int .i64 a0_0,.int .i64 a0_1,.int .i64 a0_2,.int .i64 a0_3] 67 (0,0)))∧(w'.heap[gb148]?=some (.cells #[.int .i64 a1_0,.int .i64 a1_1,.int .i64 a1_2,.int .i64 a1_3] 67 (0,0)))∧(w'.heap[gb149]?=some (.cells #[.int .i64 0,.int .i64 0,.int .i64 0,.int .i64 0] 67 (0,0)))∧(w'.heap[gb150]?=some (.cells #[.int .i64 0,.int .i64 0,.int .i64 0,.int .i64 0] 67 (0,0)))∧(w'.heap[s_]?=some (.cells #[.int .i64 0,.int .i64 0,.int .i64 0,.int .i64 0] 67 (0,0)))∧(w.heap.size ≤ s_)∧(w.heap.size ≤ s_)∧(gb147 ≠ s_)∧(s_ ≠ gb147)∧(gb148 ≠ s_)∧(s_ ≠ gb148)∧(gb149 ≠ s_)∧(s_ ≠ gb149)∧(gb150 ≠ s_)∧(s_ ≠ gb150)∧(Below w.heap.size w w')) ?_ ?_;rotate_left
 ·
  intro hCont;refine two_ (i:=2) (j:=4) (Ni:=some 20) (Nj:=some 7) #[true,true,true,false,false,false] #[true,true,false,false,true,false] rfl rfl rfl rfl (by kernel_rfl) (by decide) (by decide) (fun K hK=>?_) (fun K hK=>?_)
  ·
   skip
   refine goes_ Try.func65 (by kernel_rfl) rfl #[.agg #[.int .i64 a1_0,.int .i64 a1_1,.int .i64 a1_2,.int .i64 a1_3]] (by rfl) rfl rfl (by (try simp only [List.map_toArray,List.map_cons,List.map_nil]);first|done|rfl|(simp only [List.length_drop,List.length_take];rfl)) ?_;with_reducible refine (norm_quat_conj.calls a1_0 a1_1 a1_2 a1_3 t152 t153 t154 t155 _ A4.out).mono ?_
   rintro e w16 ⟨rfl,hb⟩;refine ⟨_,rfl,?_⟩;replace BK147:=bkb BK147 hb;replace BK148:=bkb BK148 hb;replace BK149:=bkb BK149 hb;replace BK150:=bkb BK150 hb;replace HB:=bst HB hb;(try clear hb);refine hK.out _ _ ⟨(blk_cell BK147.out 0).trans rfl,(blk_cell BK147.out 1).trans rfl,(blk_cell BK147.out 2).trans rfl,(blk_cell BK147.out 3).trans rfl,(blk_cell BK148.out 0).trans rfl,(blk_cell BK148.out 1).trans rfl,(blk_cell BK148.out 2).trans rfl,(blk_cell BK148.out 3).trans rfl⟩ (fun hHeld=>?_);clear hK K;refine norm_ (a':=?_) ?_ ?_;rotate_left
   ·
    show Act.put _ (some 20) _=_;simp only [Act.put,List.setIfInBounds_toArray,List.set_cons_zero,List.set_cons_succ,i64_w,i32_w];rfl
   refine two_ (i:=3) (j:=4) (Ni:=some 21) (Nj:=some 7) #[true,true,true,true,false,false] #[true,true,true,false,true,false] rfl rfl rfl rfl (by kernel_rfl) (by decide) (by decide) (fun K hK=>?_) (fun K hK=>?_)
   ·
    skip
    refine goes_ Try.func71 (by kernel_rfl) rfl #[.agg #[.int .i64 a0_0,.int .i64 a0_1,.int .i64 a0_2,.int .i64 a0_3],.agg #[.int .i64 t152,.int .i64 t153,.int .i64 t154,.int .i64 t155]] (by rfl) rfl rfl (by (try simp only [List.map_toArray,List.map_cons,List.map_nil]);first|done|rfl|(simp only [List.length_drop,List.length_take];rfl)) ?_;with_reducible refine (norm_quat_double.calls a0_0 a0_1 a0_2 a0_3 t152 t153 t154 t155 t156 t157 t158 t159 _ A5.out).mono ?_
    rintro e w17 ⟨rfl,hb⟩;refine ⟨_,rfl,?_⟩;replace BK147:=bkb BK147 hb;replace BK148:=bkb BK148 hb;replace BK149:=bkb BK149 hb;replace BK150:=bkb BK150 hb;replace HB:=bst HB hb;(try clear hb);refine hK.out _ _ ⟨(blk_cell BK147.out 0).trans rfl,(blk_cell BK147.out 1).trans rfl,(blk_cell BK147.out 2).trans rfl,(blk_cell BK147.out 3).trans rfl,(blk_cell BK148.out 0).trans rfl,(blk_cell BK148.out 1).trans rfl,(blk_cell BK148.out 2).trans rfl,(blk_cell BK148.out 3).trans rfl⟩ (fun hHeld=>?_);clear hK K;refine norm_ (a':=?_) ?_ ?_;rotate_left
    ·
     show Act.put _ (some 21) _=_;simp only [Act.put,List.setIfInBounds_toArray,List.set_cons_zero,List.set_cons_succ,i64_w,i32_w];rfl
    refine one_ (i:=4) (N:=some 7) #[true,true,true,true,true,false] rfl rfl (by kernel_rfl) (by decide) (fun K hK=>?_);refine box_step ?hg (N:=7) ?hd (cs:=#[.int .i64 0,.int .i64 0,.int .i64 0,.int .i64 0]) (t:=67) ?hr ?_;(case hd=>rfl);(case hg=>rfl);(case hr=>first|(go_simp;done)|(go_simp;rfl));intro gb160 hg w18 hbox hb;have BK160:=mk0 (hbox);have GW160:=szw hg HB;have GE160:=szw hg HB;have NB147_160:=nlt hg BK147;have NB160_147:=ngt hg BK147;have NB148_160:=nlt hg BK148;have NB160_148:=ngt hg BK148;have NB149_160:=nlt hg BK149;have NB160_149:=ngt hg BK149;have NB150_160:=nlt hg BK150;have NB160_150:=ngt hg BK150;replace BK147:=bkb BK147 hb;replace BK148:=bkb BK148 hb;replace BK149:=bkb BK149 hb;replace BK150:=bkb BK150 hb;replace HB:=bst HB hb;clear hb hbox hg;refine hK.out _ _ ⟨(blk_cell BK147.out 0).trans rfl,(blk_cell BK147.out 1).trans rfl,(blk_cell BK147.out 2).trans rfl,(blk_cell BK147.out 3).trans rfl,(blk_cell BK148.out 0).trans rfl,(blk_cell BK148.out 1).trans rfl,(blk_cell BK148.out 2).trans rfl,(blk_cell BK148.out 3).trans rfl⟩ (fun hHeld=>?_);clear hK K;refine norm_ (a':=?_) ?_ ?_;rotate_left
    ·
     show Act.put _ (some 7) _=_;simp only [Act.put,List.setIfInBounds_toArray,List.set_cons_zero,List.set_cons_succ,i64_w,i32_w];rfl
    exact norm_ (by simp only [putAll,Act.put,List.setIfInBounds_toArray,List.set_cons_zero,List.set_cons_succ]) (hCont (gb160) _ ⟨hHeld,BK147.out,BK148.out,BK149.out,BK150.out,BK160.out,GW160.out,GE160.out,NB147_160.out,NB160_147.out,NB148_160.out,NB160_148.out,NB149_160.out,NB160_149.out,NB150_160.out,NB160_150.out,HB.out⟩)
   ·
    skip
    refine box_step ?hg (N:=7) ?hd (cs:=#[.int .i64 0,.int .i64 0,.int .i64 0,.int .i64 0]) (t:=67) ?hr ?_;(case hd=>rfl);(case hg=>rfl);(case hr=>first|(go_simp;done)|(go_simp;rfl));intro gb160 hg w17 hbox hb;have BK160:=mk0 (hbox);have GW160:=szw hg HB;have GE160:=szw hg HB;have NB147_160:=nlt hg BK147;have NB160_147:=ngt hg BK147;have NB148_160:=nlt hg BK148;have NB160_148:=ngt hg BK148;have NB149_160:=nlt hg BK149;have NB160_149:=ngt hg BK149;have NB150_160:=nlt hg BK150;have NB160_150:=ngt hg BK150;replace BK147:=bkb BK147 hb;replace BK148:=bkb BK148 hb;replace BK149:=bkb BK149 hb;replace BK150:=bkb BK150 hb;replace HB:=bst HB hb;clear hb hbox hg;refine hK.out _ _ ⟨(blk_cell BK147.out 0).trans rfl,(blk_cell BK147.out 1).trans rfl,(blk_cell BK147.out 2).trans rfl,(blk_cell BK147.out 3).trans rfl,(blk_cell BK148.out 0).trans rfl,(blk_cell BK148.out 1).trans rfl,(blk_cell BK148.out 2).trans rfl,(blk_cell BK148.out 3).trans rfl⟩ (fun hHeld=>?_);clear hK K;refine norm_ (a':=?_) ?_ ?_;rotate_left
    ·
     show Act.put _ (some 7) _=_;simp only [Act.put,List.setIfInBounds_toArray,List.set_cons_zero,List.set_cons_succ,i64_w,i32_w];rfl
    refine one_ (i:=3) (N:=some 21) #[true,true,true,true,true,false] rfl rfl (by kernel_rfl) (by decide) (fun K hK=>?_);refine goes_ Try.func71 (by kernel_rfl) rfl #[.agg #[.int .i64 a0_0,.int .i64 a0_1,.int .i64 a0_2,.int .i64 a0_3],.agg #[.int .i64 t152,.int .i64 t153,.int .i64 t154,.int .i64 t155]] (by rfl) rfl rfl (by (try simp only [List.map_toArray,List.map_cons,List.map_nil]);first|done|rfl|(simp only [List.length_drop,List.length_take];rfl)) ?_;with_reducible refine (norm_quat_double.calls a0_0 a0_1 a0_2 a0_3 t152 t153 t154 t155 t156 t157 t158 t159 _ A5.out).mono ?_
    rintro e w18 ⟨rfl,hb⟩;refine ⟨_,rfl,?_⟩;replace BK147:=bkb BK147 hb;replace BK148:=bkb BK148 hb;replace BK149:=bkb BK149 hb;replace BK150:=bkb BK150 hb;replace BK160:=bkb BK160 hb;replace HB:=bst HB hb;(try clear hb);refine hK.out _ _ ⟨(blk_cell BK147.out 0).trans rfl,(blk_cell BK147.out 1).trans rfl,(blk_cell BK147.out 2).trans rfl,(blk_cell BK147.out 3).trans rfl,(blk_cell BK148.out 0).trans rfl,(blk_cell BK148.out 1).trans rfl,(blk_cell BK148.out 2).trans rfl,(blk_cell BK148.out 3).trans rfl⟩ (fun hHeld=>?_);clear hK K;refine norm_ (a':=?_) ?_ ?_;rotate_left
    ·
     show Act.put _ (some 21) _=_;simp only [Act.put,List.setIfInBounds_toArray,List.set_cons_zero,List.set_cons_succ,i64_w,i32_w];rfl
    exact norm_ (by simp only [putAll,Act.put,List.setIfInBounds_toArray,List.set_cons_zero,List.set_cons_succ]) (hCont (gb160) _ ⟨hHeld,BK147.out,BK148.out,BK149.out,BK150.out,BK160.out,GW160.out,GE160.out,NB147_160.out,NB160_147.out,NB148_160.out,NB160_148.out,NB149_160.out,NB160_149.out,NB150_160.out,NB160_150.out,HB.out⟩)
  ·
   skip
   refine box_step ?hg (N:=7) ?hd (cs:=#[.int .i64 0,.int .i64 0,.int .i64 0,.int .i64 0]) (t:=67) ?hr ?_;(case hd=>rfl);(case hg=>rfl);(case hr=>first|(go_simp;done)|(go_simp;rfl));intro gb160 hg w16 hbox hb;have BK160:=mk0 (hbox);have GW160:=szw hg HB;have GE160:=szw hg HB;have NB147_160:=nlt hg BK147;have NB160_147:=ngt hg BK147;have NB148_160:=nlt hg BK148;have NB160_148:=ngt hg BK148;have NB149_160:=nlt hg BK149;have NB160_149:=ngt hg BK149;have NB150_160:=nlt hg BK150;have NB160_150:=ngt hg BK150;replace BK147:=bkb BK147 hb;replace BK148:=bkb BK148 hb;replace BK149:=bkb BK149 hb;replace BK150:=bkb BK150 hb;replace HB:=bst HB hb;clear hb hbox hg;refine hK.out _ _ ⟨(blk_cell BK147.out 0).trans rfl,(blk_cell BK147.out 1).trans rfl,(blk_cell BK147.out 2).trans rfl,(blk_cell BK147.out 3).trans rfl,(blk_cell BK148.out 0).trans rfl,(blk_cell BK148.out 1).trans rfl,(blk_cell BK148.out 2).trans rfl,(blk_cell BK148.out 3).trans rfl⟩ (fun hHeld=>?_);clear hK K;refine norm_ (a':=?_) ?_ ?_;rotate_left
   ·
    show Act.put _ (some 7) _=_;simp only [Act.put,List.setIfInBounds_toArray,List.set_cons_zero,List.set_cons_succ,i64_w,i32_w];rfl
   refine one_ (i:=2) (N:=some 20) #[true,true,true,false,true,false] rfl rfl (by kernel_rfl) (by decide) (fun K hK=>?_);refine goes_ Try.func65 (by kernel_rfl) rfl #[.agg #[.int .i64 a1_0,.int .i64 a1_1,.int .i64 a1_2,.int .i64 a1_3]] (by rfl) rfl rfl (by (try simp only [List.map_toArray,List.map_cons,List.map_nil]);first|done|rfl|(simp only [List.length_drop,List.length_take];rfl)) ?_;with_reducible refine (norm_quat_conj.calls a1_0 a1_1 a1_2 a1_3 t152 t153 t154 t155 _ A4.out).mono ?_
   rintro e w17 ⟨rfl,hb⟩;refine ⟨_,rfl,?_⟩;replace BK147:=bkb BK147 hb;replace BK148:=bkb BK148 hb;replace BK149:=bkb BK149 hb;replace BK150:=bkb BK150 hb;replace BK160:=bkb BK160 hb;replace HB:=bst HB hb;(try clear hb);refine hK.out _ _ ⟨(blk_cell BK147.out 0).trans rfl,(blk_cell BK147.out 1).trans rfl,(blk_cell BK147.out 2).trans rfl,(blk_cell BK147.out 3).trans rfl,(blk_cell BK148.out 0).trans rfl,(blk_cell BK148.out 1).trans rfl,(blk_cell BK148.out 2).trans rfl,(blk_cell BK148.out 3).trans rfl⟩ (fun hHeld=>?_);clear hK K;refine norm_ (a':=?_) ?_ ?_;rotate_left
   ·
    show Act.put _ (some 20) _=_;simp only [Act.put,List.setIfInBounds_toArray,List.set_cons_zero,List.set_cons_succ,i64_w,i32_w];rfl
   refine one_ (i:=3) (N:=some 21) #[true,true,true,true,true,false] rfl rfl (by kernel_rfl) (by decide) (fun K hK=>?_);refine goes_ Try.func71 (by kernel_rfl) rfl #[.agg #[.int .i64 a0_0,.int .i64 a0_1,.int .i64 a0_2,.int .i64 a0_3],.agg #[.int .i64 t152,.int .i64 t153,.int .i64 t154,.int .i64 t155]] (by rfl) rfl rfl (by (try simp only [List.map_toArray,List.map_cons,List.map_nil]);first|done|rfl|(simp only [List.length_drop,List.length_take];rfl)) ?_;with_reducible refine (norm_quat_double.calls a0_0 a0_1 a0_2 a0_3 t152 t153 t154 t155 t156 t157 t158 t159 _ A5.out).mono ?_
   rintro e w18 ⟨rfl,hb⟩;refine ⟨_,rfl,?_⟩;replace BK147:=bkb BK147 hb;replace BK148:=bkb BK148 hb;replace BK149:=bkb BK149 hb;replace BK150:=bkb BK150 hb;replace BK160:=bkb BK160 hb;replace HB:=bst HB hb;(try clear hb);refine hK.out _ _ ⟨(blk_cell BK147.out 0).trans rfl,(blk_cell BK147.out 1).trans rfl,(blk_cell BK147.out 2).trans rfl,(blk_cell BK147.out 3).trans rfl,(blk_cell BK148.out 0).trans rfl,(blk_cell BK148.out 1).trans rfl,(blk_cell BK148.out 2).trans rfl,(blk_cell BK148.out 3).trans rfl⟩ (fun hHeld=>?_);clear hK K;refine norm_ (a':=?_) ?_ ?_;rotate_left
   ·
    show Act.put _ (some 21) _=_;simp only [Act.put,List.setIfInBounds_toArray,List.set_cons_zero,List.set_cons_succ,i64_w,i32_w];rfl
   exact norm_ (by simp only [putAll,Act.put,List.setIfInBounds_toArray,List.set_cons_zero,List.set_cons_succ]) (hCont (gb160) _ ⟨hHeld,BK147.out,BK148.out,BK149.out,BK150.out,BK160.out,GW160.out,GE160.out,NB147_160.out,NB160_147.out,NB148_160.out,NB160_148.out,NB149_160.out,NB160_149.out,NB150_160.out,NB160_150.out,HB.out⟩)
 clear BK147 BK148 BK149 BK150 HB;rintro gb160 w19 hJ_;obtain ⟨hS_,BK147,BK148,BK149,BK150,BK160,GW160,GE160,NB147_160,NB160_147,NB148_160,NB160_148,NB149_160,NB160_149,NB150_160,NB160_150,HB⟩:=hJ_;replace BK147:=mk0 BK147;replace BK148:=mk0 BK148;replace BK149:=mk0 BK149;replace BK150:=mk0 BK150;replace BK160:=mk0 BK160;replace GW160:=mk0 GW160;replace GE160:=mk0 GE160;replace NB147_160:=mk0 NB147_160;replace NB160_147:=mk0 NB160_147;replace NB148_160:=mk0 NB148_160;replace NB160_148:=mk0 NB160_148;replace NB149_160:=mk0 NB149_160;replace NB160_149:=mk0 NB160_149;replace NB150_160:=mk0 NB150_160;replace NB160_150:=mk0 NB160_150;replace HB:=mk0 HB;have hHeld:w19.cell? ⟨gb147,0,none⟩=some (.int .i64 a0_0)∧w19.cell? ⟨gb147,1,none⟩=some (.int .i64 a0_1)∧w19.cell? ⟨gb147,2,none⟩=some (.int .i64 a0_2)∧w19.cell? ⟨gb147,3,none⟩=some (.int .i64 a0_3)∧w19.cell? ⟨gb148,0,none⟩=some (.int .i64 a1_0)∧w19.cell? ⟨gb148,1,none⟩=some (.int .i64 a1_1)∧w19.cell? ⟨gb148,2,none⟩=some (.int .i64 a1_2)∧w19.cell? ⟨gb148,3,none⟩=some (.int .i64 a1_3):=hS_;refine norm_ (a':=?_) ?_ ?_;rotate_left
 ·
  simp only [putAll,Act.put,List.setIfInBounds_toArray,List.set_cons_zero,List.set_cons_succ];rfl
 refine one_ (i:=5) (N:=none) #[true,true,true,true,true,true] rfl rfl (by kernel_rfl) (by decide) (fun K hK=>?_);have hs20:w19.cell? ⟨gb160,0,none⟩=some (.int .i64 0):=(blk_cell BK160.out 0).trans rfl;have hfs20:=blk_frozen BK160.out 0;have hns20_0:=NB147_160.out;have hns20_1:=NB148_160.out;have hns20_2:=NB149_160.out;have hns20_3:=NB150_160.out;have hms20_0:=NB160_147.out;have hms20_1:=NB160_148.out;have hms20_2:=NB160_149.out;have hms20_3:=NB160_150.out;have hs21:w19.cell? ⟨gb160,1,none⟩=some (.int .i64 0):=(blk_cell BK160.out 1).trans rfl;have hfs21:=blk_frozen BK160.out 1;have hns21_0:=NB147_160.out;have hns21_1:=NB148_160.out;have hns21_2:=NB149_160.out;have hns21_3:=NB150_160.out;have hms21_0:=NB160_147.out;have hms21_1:=NB160_148.out;have hms21_2:=NB160_149.out;have hms21_3:=NB160_150.out;have hs22:w19.cell? ⟨gb160,2,none⟩=some (.int .i64 0):=(blk_cell BK160.out 2).trans rfl;have hfs22:=blk_frozen BK160.out 2;have hns22_0:=NB147_160.out;have hns22_1:=NB148_160.out;have hns22_2:=NB149_160.out;have hns22_3:=NB150_160.out;have hms22_0:=NB160_147.out;have hms22_1:=NB160_148.out;have hms22_2:=NB160_149.out;have hms22_3:=NB160_150.out;have hs23:w19.cell? ⟨gb160,3,none⟩=some (.int .i64 0):=(blk_cell BK160.out 3).trans rfl;have hfs23:=blk_frozen BK160.out 3;have hns23_0:=NB147_160.out;have hns23_1:=NB148_160.out;have hns23_2:=NB149_160.out;have hns23_3:=NB150_160.out;have hms23_0:=NB160_147.out;have hms23_1:=NB160_148.out;have hms23_2:=NB160_149.out;have hms23_3:=NB160_150.out;refine skip_ (w1:=?_) (by rfl) rfl ?_ ?_;rotate_left
 ·
  go_simp;rfl
 refine hK.out _ _ ⟨((cell_far (p:=⟨gb160,_,none⟩) NB147_160.out _).trans (((cell_far (p:=⟨gb160,_,none⟩) NB147_160.out _).trans (((cell_far (p:=⟨gb160,_,none⟩) NB147_160.out _).trans (((cell_far (p:=⟨gb160,_,none⟩) NB147_160.out _).trans (hHeld.1)))))))),((cell_far (p:=⟨gb160,_,none⟩) NB147_160.out _).trans (((cell_far (p:=⟨gb160,_,none⟩) NB147_160.out _).trans (((cell_far (p:=⟨gb160,_,none⟩) NB147_160.out _).trans (((cell_far (p:=⟨gb160,_,none⟩) NB147_160.out _).trans (hHeld.2.1)))))))),((cell_far (p:=⟨gb160,_,none⟩) NB147_160.out _).trans (((cell_far (p:=⟨gb160,_,none⟩) NB147_160.out _).trans (((cell_far (p:=⟨gb160,_,none⟩) NB147_160.out _).trans (((cell_far (p:=⟨gb160,_,none⟩) NB147_160.out _).trans (hHeld.2.2.1)))))))),((cell_far (p:=⟨gb160,_,none⟩) NB147_160.out _).trans (((cell_far (p:=⟨gb160,_,none⟩) NB147_160.out _).trans (((cell_far (p:=⟨gb160,_,none⟩) NB147_160.out _).trans (((cell_far (p:=⟨gb160,_,none⟩) NB147_160.out _).trans (hHeld.2.2.2.1)))))))),((cell_far (p:=⟨gb160,_,none⟩) NB148_160.out _).trans (((cell_far (p:=⟨gb160,_,none⟩) NB148_160.out _).trans (((cell_far (p:=⟨gb160,_,none⟩) NB148_160.out _).trans (((cell_far (p:=⟨gb160,_,none⟩) NB148_160.out _).trans (hHeld.2.2.2.2.1)))))))),((cell_far (p:=⟨gb160,_,none⟩) NB148_160.out _).trans (((cell_far (p:=⟨gb160,_,none⟩) NB148_160.out _).trans (((cell_far (p:=⟨gb160,_,none⟩) NB148_160.out _).trans (((cell_far (p:=⟨gb160,_,none⟩) NB148_160.out _).trans (hHeld.2.2.2.2.2.1)))))))),((cell_far (p:=⟨gb160,_,none⟩) NB148_160.out _).trans (((cell_far (p:=⟨gb160,_,none⟩) NB148_160.out _).trans (((cell_far (p:=⟨gb160,_,none⟩) NB148_160.out _).trans (((cell_far (p:=⟨gb160,_,none⟩) NB148_160.out _).trans (hHeld.2.2.2.2.2.2.1)))))))),((cell_far (p:=⟨gb160,_,none⟩) NB148_160.out _).trans (((cell_far (p:=⟨gb160,_,none⟩) NB148_160.out _).trans (((cell_far (p:=⟨gb160,_,none⟩) NB148_160.out _).trans (((cell_far (p:=⟨gb160,_,none⟩) NB148_160.out _).trans (hHeld.2.2.2.2.2.2.2))))))))⟩ (fun hHeld=>?_);clear hK K;refine done_ (by kernel_rfl) ?_;try go_wp2_with (first|((with_reducible refine gate_dst (N:=8) rfl ?_);refine box_event ?hg (N:=8) ?hd (cs:=#[.int .i64 0,.int .i64 0,.int .i64 0,.int .i64 0]) (t:=67) ?hr ?_;(case hd=>rfl);(case hg=>rfl);(case hr=>first|(go_simp;done)|(go_simp;rfl));intro gb161 hg w24 hbox hb;have BK161:=mk0 (hbox);have GW161:=mk0 ((by rw [hg];exact (below_size (by repeat (with_reducible first|exact HB.out|refine below_set ?_ GE147.out|refine below_set ?_ GE148.out|refine below_set ?_ GE149.out|refine below_set ?_ GE150.out|refine below_set ?_ GE160.out))):w.heap.size ≤ gb161));have GE161:=mk0 ((by rw [hg];exact (below_size (by repeat (with_reducible first|exact HB.out|refine below_set ?_ GE147.out|refine below_set ?_ GE148.out|refine below_set ?_ GE149.out|refine below_set ?_ GE150.out|refine below_set ?_ GE160.out))):w.heap.size ≤ gb161));have NB147_161:=mk0 ((by rw [hg];exact Nat.ne_of_lt (blk_lt (g:=gb147) (o:=.cells #[.int .i64 a0_0,.int .i64 a0_1,.int .i64 a0_2,.int .i64 a0_3] 67 (0,0)) (by (iterate 4 refine blk_far ?_ NB147_160.out _);exact BK147.out)):gb147 ≠ gb161));have NB161_147:=mk0 ((by rw [hg];exact Nat.ne_of_gt (blk_lt (g:=gb147) (o:=.cells #[.int .i64 a0_0,.int .i64 a0_1,.int .i64 a0_2,.int .i64 a0_3] 67 (0,0)) (by (iterate 4 refine blk_far ?_ NB147_160.out _);exact BK147.out)):gb161 ≠ gb147));have NB148_161:=mk0 ((by rw [hg];exact Nat.ne_of_lt (blk_lt (g:=gb148) (o:=.cells #[.int .i64 a1_0,.int .i64 a1_1,.int .i64 a1_2,.int .i64 a1_3] 67 (0,0)) (by (iterate 4 refine blk_far ?_ NB148_160.out _);exact BK148.out)):gb148 ≠ gb161));have NB161_148:=mk0 ((by rw [hg];exact Nat.ne_of_gt (blk_lt (g:=gb148) (o:=.cells #[.int .i64 a1_0,.int .i64 a1_1,.int .i64 a1_2,.int .i64 a1_3] 67 (0,0)) (by (iterate 4 refine blk_far ?_ NB148_160.out _);exact BK148.out)):gb161 ≠ gb148));have NB149_161:=mk0 ((by rw [hg];exact Nat.ne_of_lt (blk_lt (g:=gb149) (o:=.cells #[.int .i64 0,.int .i64 0,.int .i64 0,.int .i64 0] 67 (0,0)) (by (iterate 4 refine blk_far ?_ NB149_160.out _);exact BK149.out)):gb149 ≠ gb161));have NB161_149:=mk0 ((by rw [hg];exact Nat.ne_of_gt (blk_lt (g:=gb149) (o:=.cells #[.int .i64 0,.int .i64 0,.int .i64 0,.int .i64 0] 67 (0,0)) (by (iterate 4 refine blk_far ?_ NB149_160.out _);exact BK149.out)):gb161 ≠ gb149));have NB150_161:=mk0 ((by rw [hg];exact Nat.ne_of_lt (blk_lt (g:=gb150) (o:=.cells #[.int .i64 0,.int .i64 0,.int .i64 0,.int .i64 0] 67 (0,0)) (by (iterate 4 refine blk_far ?_ NB150_160.out _);exact BK150.out)):gb150 ≠ gb161));have NB161_150:=mk0 ((by rw [hg];exact Nat.ne_of_gt (blk_lt (g:=gb150) (o:=.cells #[.int .i64 0,.int .i64 0,.int .i64 0,.int .i64 0] 67 (0,0)) (by (iterate 4 refine blk_far ?_ NB150_160.out _);exact BK150.out)):gb161 ≠ gb150));have NB160_161:=mk0 ((by rw [hg];exact Nat.ne_of_lt (blk_lt (g:=gb160) (o:=.cells #[.int .i64 t156,.int .i64 t157,.int .i64 t158,.int .i64 t159] 67 (0,0)) (by refine blk_put (cs:=#[.int .i64 t156,.int .i64 t157,.int .i64 t158,.int .i64 0]) ?_ 3 _ rfl;refine blk_put (cs:=#[.int .i64 t156,.int .i64 t157,.int .i64 0,.int .i64 0]) ?_ 2 _ rfl;refine blk_put (cs:=#[.int .i64 t156,.int .i64 0,.int .i64 0,.int .i64 0]) ?_ 1 _ rfl;refine blk_put (cs:=#[.int .i64 0,.int .i64 0,.int .i64 0,.int .i64 0]) ?_ 0 _ rfl;exact BK160.out)):gb160 ≠ gb161));have NB161_160:=mk0 ((by rw [hg];exact Nat.ne_of_gt (blk_lt (g:=gb160) (o:=.cells #[.int .i64 t156,.int .i64 t157,.int .i64 t158,.int .i64 t159] 67 (0,0)) (by refine blk_put (cs:=#[.int .i64 t156,.int .i64 t157,.int .i64 t158,.int .i64 0]) ?_ 3 _ rfl;refine blk_put (cs:=#[.int .i64 t156,.int .i64 t157,.int .i64 0,.int .i64 0]) ?_ 2 _ rfl;refine blk_put (cs:=#[.int .i64 t156,.int .i64 0,.int .i64 0,.int .i64 0]) ?_ 1 _ rfl;refine blk_put (cs:=#[.int .i64 0,.int .i64 0,.int .i64 0,.int .i64 0]) ?_ 0 _ rfl;exact BK160.out)):gb161 ≠ gb160));replace BK147:=mk0 (blk_below (g:=gb147) (o:=.cells #[.int .i64 a0_0,.int .i64 a0_1,.int .i64 a0_2,.int .i64 a0_3] 67 (0,0)) (by (iterate 4 refine blk_far ?_ NB147_160.out _);exact BK147.out) hb);replace BK148:=mk0 (blk_below (g:=gb148) (o:=.cells #[.int .i64 a1_0,.int .i64 a1_1,.int .i64 a1_2,.int .i64 a1_3] 67 (0,0)) (by (iterate 4 refine blk_far ?_ NB148_160.out _);exact BK148.out) hb);replace BK149:=mk0 (blk_below (g:=gb149) (o:=.cells #[.int .i64 0,.int .i64 0,.int .i64 0,.int .i64 0] 67 (0,0)) (by (iterate 4 refine blk_far ?_ NB149_160.out _);exact BK149.out) hb);replace BK150:=mk0 (blk_below (g:=gb150) (o:=.cells #[.int .i64 0,.int .i64 0,.int .i64 0,.int .i64 0] 67 (0,0)) (by (iterate 4 refine blk_far ?_ NB150_160.out _);exact BK150.out) hb);replace BK160:=mk0 (blk_below (g:=gb160) (o:=.cells #[.int .i64 t156,.int .i64 t157,.int .i64 t158,.int .i64 t159] 67 (0,0)) (by refine blk_put (cs:=#[.int .i64 t156,.int .i64 t157,.int .i64 t158,.int .i64 0]) ?_ 3 _ rfl;refine blk_put (cs:=#[.int .i64 t156,.int .i64 t157,.int .i64 0,.int .i64 0]) ?_ 2 _ rfl;refine blk_put (cs:=#[.int .i64 t156,.int .i64 0,.int .i64 0,.int .i64 0]) ?_ 1 _ rfl;refine blk_put (cs:=#[.int .i64 0,.int .i64 0,.int .i64 0,.int .i64 0]) ?_ 0 _ rfl;exact BK160.out) hb);replace HB:=mk0 (below_step (by repeat (with_reducible first|exact HB.out|refine below_set ?_ GE147.out|refine below_set ?_ GE148.out|refine below_set ?_ GE149.out|refine below_set ?_ GE150.out|refine below_set ?_ GE160.out)) hb);clear hb hbox hg))
 (try simp only [Act.put,List.setIfInBounds_toArray,List.set_cons_zero,List.set_cons_succ])
 go_loopg [9,22] k (fun kq v9 v22 w'=>∃ (x9_1:Int) (x22_1:Int) (x162000_1:Int) (x162001_1:Int) (x162002_1:Int) (x162003_1:Int),v9=.int .i64 x9_1∧v22=.int .i64 x22_1∧Aside0 (norm_divide.l0 kq t151 x9_1 x22_1 a0_0 a0_1 a0_2 a0_3 a1_0 a1_1 a1_2 a1_3 t156 t157 t158 t159 x162000_1 x162001_1 x162002_1 x162003_1=some (r1,r2,r3,r4,r5,r6,r7,r8))∧Aside0 (kq ≤ k)∧Aside0 (w'.heap[gb147]?=some (.cells #[.int .i64 a0_0,.int .i64 a0_1,.int .i64 a0_2,.int .i64 a0_3] 67 (0,0)))∧Aside0 (w'.heap[gb148]?=some (.cells #[.int .i64 a1_0,.int .i64 a1_1,.int .i64 a1_2,.int .i64 a1_3] 67 (0,0)))∧Aside0 (w'.heap[gb149]?=some (.cells #[.int .i64 0,.int .i64 0,.int .i64 0,.int .i64 0] 67 (0,0)))∧Aside0 (w'.heap[gb150]?=some (.cells #[.int .i64 0,.int .i64 0,.int .i64 0,.int .i64 0] 67 (0,0)))∧Aside0 (w'.heap[gb160]?=some (.cells #[.int .i64 t156,.int .i64 t157,.int .i64 t158,.int .i64 t159] 67 (0,0)))∧Aside0 (w'.heap[gb161]?=some (.cells #[.int .i64 x162000_1,.int .i64 x162001_1,.int .i64 x162002_1,.int .i64 x162003_1] 67 (0,0)))∧Aside0 (Below w.heap.size w w'))
 case atStart=>exact ⟨((-1)),(0),(0),(0),(0),(0),(by first|rfl|(simp;done)|(simp [*];done)),(by first|rfl|(simp;done)|(simp [*];done)),H',⟨Nat.le_refl _⟩,⟨by exact BK147.out⟩,⟨by exact BK148.out⟩,⟨by exact BK149.out⟩,⟨by exact BK150.out⟩,⟨by exact BK160.out⟩,⟨by exact BK161.out⟩,⟨by repeat (first|(with_reducible first|exact HB.out|apply below_alloc|apply pw_below_drewN|apply below_drew1|refine below_set ?_ GE147.out|refine below_set ?_ GE148.out|refine below_set ?_ GE149.out|refine below_set ?_ GE150.out|refine below_set ?_ GE160.out|refine below_set ?_ GE161.out)|exact HB.out)⟩⟩
 case round =>
  clear H';try clear c1
  try clear p2
  try clear c4
  try clear c6
  try clear c7
  try clear c10
  try clear c11
  try clear c12
  try clear hcz13_0
  try clear hcz13_1
  try clear hcz13_2
  try clear hcz13_3
  try clear hfz13_0
  try clear hfz13_1
  try clear hfz13_2
  try clear hfz13_3
  obtain ⟨x9_1,x22_1,x162000_1,x162001_1,x162002_1,x162003_1,rfl,rfl,HA,HK1,BK147,BK148,BK149,BK150,BK160,BK161,HB⟩:=hrel;cases gk with
  | zero=>exact absurd HA.out (by simp [norm_divide.l0])
  | succ k1 =>
   have H:=HA.out;clear HA;simp only [norm_divide.l0] at H
   by_cases c25:x22_1 < 2
   ·
    rw [if_pos c25] at H;have c25b0:decide (x22_1 < 2)=true:=decide_eq_true c25;clear c25;have H':=mk0 H;clear H;go_wp2_with (first|((with_reducible refine gate_dst (N:=11) rfl ?_);refine box_event ?hg (N:=11) ?hd (cs:=#[.int .i64 0,.int .i64 0,.int .i64 0,.int .i64 0]) (t:=67) ?hr ?_;(case hd=>rfl);(case hg=>rfl);(case hr=>first|(go_simp;done)|(go_simp;rfl));intro gb173 hg w26 hbox hb;have BK173:=mk0 (hbox);have GW173:=szw hg HB;have GE173:=GW173;have NB147_173:=nlt hg BK147;have NB173_147:=ngt hg BK147;have NB148_173:=nlt hg BK148;have NB173_148:=ngt hg BK148;have NB149_173:=nlt hg BK149;have NB173_149:=ngt hg BK149;have NB150_173:=nlt hg BK150;have NB173_150:=ngt hg BK150;have NB160_173:=nlt hg BK160;have NB173_160:=ngt hg BK160;have NB161_173:=nlt hg BK161;have NB173_161:=ngt hg BK161;replace BK147:=bkb BK147 hb;replace BK148:=bkb BK148 hb;replace BK149:=bkb BK149 hb;replace BK150:=bkb BK150 hb;replace BK160:=bkb BK160 hb;replace BK161:=bkb BK161 hb;replace HB:=bst HB hb;clear hb hbox hg;have hnb27:=NB160_147.out;have hnc27:=NB147_160.out;have hnb28:=NB160_148.out;have hnc28:=NB148_160.out;have hnb29:=NB160_149.out;have hnc29:=NB149_160.out;have hnb30:=NB160_150.out;have hnc30:=NB150_160.out;have hnb31:=NB160_161.out;have hnc31:=NB161_160.out;have hnb32:=NB160_173.out;have hnc32:=NB173_160.out;have hcz33_0:w26.cell? ⟨gb160,0,none⟩=some (.int .i64 t156):=(blk_cell BK160.out 0).trans rfl;have hcz33_1:w26.cell? ⟨gb160,1,none⟩=some (.int .i64 t157):=(blk_cell BK160.out 1).trans rfl;have hcz33_2:w26.cell? ⟨gb160,2,none⟩=some (.int .i64 t158):=(blk_cell BK160.out 2).trans rfl;have hcz33_3:w26.cell? ⟨gb160,3,none⟩=some (.int .i64 t159):=(blk_cell BK160.out 3).trans rfl;have hfz33_0:=blk_frozen BK160.out 0;have hfz33_1:=blk_frozen BK160.out 1;have hfz33_2:=blk_frozen BK160.out 2;have hfz33_3:=blk_frozen BK160.out 3));(try simp only [Act.put,List.setIfInBounds_toArray,List.set_cons_zero,List.set_cons_succ])
    go_loopg [12,26] k1 (fun kq v12 v26 w'=>∃ (x12_2:Int) (x26_2:Int) (x174000_2:Int) (x174001_2:Int) (x174002_2:Int) (x174003_2:Int),v12=.int .i64 x12_2∧v26=.int .i64 x26_2∧Aside0 (norm_divide.l1 kq t151 x9_1 x22_1 x12_2 x22_1 x26_2 t159 t158 t157 t156 a0_0 a0_1 a0_2 a0_3 a1_0 a1_1 a1_2 a1_3 t156 t157 t158 t159 x162000_1 x162001_1 x162002_1 x162003_1 x174000_2 x174001_2 x174002_2 x174003_2=some (r1,r2,r3,r4,r5,r6,r7,r8))∧Aside0 (kq ≤ k1)∧Aside0 (w'.heap[gb147]?=some (.cells #[.int .i64 a0_0,.int .i64 a0_1,.int .i64 a0_2,.int .i64 a0_3] 67 (0,0)))∧Aside0 (w'.heap[gb148]?=some (.cells #[.int .i64 a1_0,.int .i64 a1_1,.int .i64 a1_2,.int .i64 a1_3] 67 (0,0)))∧Aside0 (w'.heap[gb149]?=some (.cells #[.int .i64 0,.int .i64 0,.int .i64 0,.int .i64 0] 67 (0,0)))∧Aside0 (w'.heap[gb150]?=some (.cells #[.int .i64 0,.int .i64 0,.int .i64 0,.int .i64 0] 67 (0,0)))∧Aside0 (w'.heap[gb160]?=some (.cells #[.int .i64 t156,.int .i64 t157,.int .i64 t158,.int .i64 t159] 67 (0,0)))∧Aside0 (w'.heap[gb161]?=some (.cells #[.int .i64 x162000_1,.int .i64 x162001_1,.int .i64 x162002_1,.int .i64 x162003_1] 67 (0,0)))∧Aside0 (w'.heap[gb173]?=some (.cells #[.int .i64 x174000_2,.int .i64 x174001_2,.int .i64 x174002_2,.int .i64 x174003_2] 67 (0,0)))∧Aside0 (Below w.heap.size w w'))
    case atStart=>exact ⟨(0),(0),(0),(0),(0),(0),(by first|rfl|(simp;done)|(simp [*];done)),(by first|rfl|(simp;done)|(simp [*];done)),H',⟨Nat.le_refl _⟩,⟨by exact BK147.out⟩,⟨by exact BK148.out⟩,⟨by exact BK149.out⟩,⟨by exact BK150.out⟩,⟨by exact BK160.out⟩,⟨by exact BK161.out⟩,⟨by exact BK173.out⟩,⟨by repeat (first|(with_reducible first|exact HB.out|apply below_alloc|apply pw_below_drewN|apply below_drew1|refine below_set ?_ GE147.out|refine below_set ?_ GE148.out|refine below_set ?_ GE149.out|refine below_set ?_ GE150.out|refine below_set ?_ GE160.out|refine below_set ?_ GE161.out|refine below_set ?_ GE173.out)|exact HB.out)⟩⟩
    case round =>
     clear H';try clear c1
     try clear c2
     try clear p2
     try clear c3
     try clear c4
     try clear c6
     try clear c7
     try clear c10
     try clear c11
     try clear c12
     try clear c25
     try clear c25b0
     try clear c27
     try clear c28
     try clear c29
     try clear c30
     try clear c31
     try clear c32
     try clear hcz13_0
     try clear hcz13_1
     try clear hcz13_2
     try clear hcz13_3
     try clear hcz33_0
     try clear hcz33_1
     try clear hcz33_2
     try clear hcz33_3
     try clear hfz13_0
     try clear hfz13_1
     try clear hfz13_2
     try clear hfz13_3
     try clear hfz33_0
     try clear hfz33_1
     try clear hfz33_2
     try clear hfz33_3
     try clear p2
     obtain ⟨x12_2,x26_2,x174000_2,x174001_2,x174002_2,x174003_2,rfl,rfl,HA,HK2,BK147,BK148,BK149,BK150,BK160,BK161,BK173,HB⟩:=hrel;cases gk with
     | zero=>exact absurd HA.out (by simp [norm_divide.l1])
     | succ k2 =>
      have H:=HA.out;clear HA;simp only [norm_divide.l1] at H
      by_cases c34:x26_2 < 4
      ·
       rw [if_pos c34] at H;have c34b0:decide (x26_2 < 4)=true:=decide_eq_true c34;clear c34
       by_cases c35:x26_2=0
       ·
        subst c35;have H1:((norm_nearest.f t156 (wrap64 (2 * t151)) x22_1).bind fun t174=>(norm_divide.l1 k2 t151 x9_1 x22_1 (wrap64 (x12_2 + (wrap64 ((wrap64 (t156 - (wrap64 ((wrap64 (t174 * 2)) * t151)))) * (wrap64 (t156 - (wrap64 ((wrap64 (t174 * 2)) * t151)))))))) x22_1 1 t159 t158 t157 t156 a0_0 a0_1 a0_2 a0_3 a1_0 a1_1 a1_2 a1_3 t156 t157 t158 t159 x162000_1 x162001_1 x162002_1 x162003_1 t174 x174001_2 x174002_2 x174003_2))=some (r1,r2,r3,r4,r5,r6,r7,r8):=by (try rw [if_pos rfl] at H);first|exact H|simpa using H
        clear H;have H:=H1;clear H1;replace H:=Option.bind_eq_some_iff.mp H;obtain ⟨t174,A360,H⟩:=H;(try dsimp only at H);have A36:=mk0 A360;clear A360;have H':=mk0 H;clear H;go_wp2_with (first|((with_reducible refine gate_callee (f:=72) rfl ?_);refine goesL_ (some 35) rfl rfl Try.func72 (by kernel_rfl) rfl #[.int .i64 t156,.int .i64 (wrap64 (2 * t151)),.int .i64 x22_1] rfl (by (try simp only [List.map_toArray,List.map_cons,List.map_nil]);first|done|rfl|(simp only [List.length_drop,List.length_take];rfl)) ?_;(with_reducible refine (norm_nearest.calls t156 (wrap64 (2 * t151)) x22_1 t174 _ A36.out).mono ?_);rintro e w' ⟨rfl,⟨nd,rfl⟩⟩;refine ⟨_,rfl,?_⟩;(try (rw [drewN_self wr];generalize hq_:World.drewN wr _=wr;have n0_:Aside0 (wr.heap[gb147]?=some (.cells #[.int .i64 a0_0,.int .i64 a0_1,.int .i64 a0_2,.int .i64 a0_3] 67 (0,0))):=⟨by rw [← hq_];exact (by (with_reducible repeat (first|refine blk_drewN ?_ _|refine blk_drew ?_|refine blk_alloc ?_ _));exact BK147.out)⟩;have n1_:Aside0 (wr.heap[gb148]?=some (.cells #[.int .i64 a1_0,.int .i64 a1_1,.int .i64 a1_2,.int .i64 a1_3] 67 (0,0))):=⟨by rw [← hq_];exact (by (with_reducible repeat (first|refine blk_drewN ?_ _|refine blk_drew ?_|refine blk_alloc ?_ _));exact BK148.out)⟩;have n2_:Aside0 (wr.heap[gb149]?=some (.cells #[.int .i64 0,.int .i64 0,.int .i64 0,.int .i64 0] 67 (0,0))):=⟨by rw [← hq_];exact (by (with_reducible repeat (first|refine blk_drewN ?_ _|refine blk_drew ?_|refine blk_alloc ?_ _));exact BK149.out)⟩;have n3_:Aside0 (wr.heap[gb150]?=some (.cells #[.int .i64 0,.int .i64 0,.int .i64 0,.int .i64 0] 67 (0,0))):=⟨by rw [← hq_];exact (by (with_reducible repeat (first|refine blk_drewN ?_ _|refine blk_drew ?_|refine blk_alloc ?_ _));exact BK150.out)⟩;have n4_:Aside0 (wr.heap[gb160]?=some (.cells #[.int .i64 t156,.int .i64 t157,.int .i64 t158,.int .i64 t159] 67 (0,0))):=⟨by rw [← hq_];exact (by (with_reducible repeat (first|refine blk_drewN ?_ _|refine blk_drew ?_|refine blk_alloc ?_ _));exact BK160.out)⟩;have n5_:Aside0 (wr.heap[gb161]?=some (.cells #[.int .i64 x162000_1,.int .i64 x162001_1,.int .i64 x162002_1,.int .i64 x162003_1] 67 (0,0))):=⟨by rw [← hq_];exact (by (with_reducible repeat (first|refine blk_drewN ?_ _|refine blk_drew ?_|refine blk_alloc ?_ _));exact BK161.out)⟩;have n6_:Aside0 (wr.heap[gb173]?=some (.cells #[.int .i64 x174000_2,.int .i64 x174001_2,.int .i64 x174002_2,.int .i64 x174003_2] 67 (0,0))):=⟨by rw [← hq_];exact (by (with_reducible repeat (first|refine blk_drewN ?_ _|refine blk_drew ?_|refine blk_alloc ?_ _));exact BK173.out)⟩;have n7_:Aside0 (Below w.heap.size w wr):=⟨by rw [← hq_];exact (by repeat (first|(with_reducible first|exact HB.out|apply below_alloc|apply pw_below_drewN|apply below_drew1|refine below_set ?_ GE147.out|refine below_set ?_ GE148.out|refine below_set ?_ GE149.out|refine below_set ?_ GE150.out|refine below_set ?_ GE160.out|refine below_set ?_ GE161.out|refine below_set ?_ GE173.out)|exact HB.out))⟩;clear BK147 BK148 BK149 BK150 BK160 BK161 BK173 HB hq_;have BK147:=n0_;have BK148:=n1_;have BK149:=n2_;have BK150:=n3_;have BK160:=n4_;have BK161:=n5_;have BK173:=n6_;have HB:=n7_;clear n0_ n1_ n2_ n3_ n4_ n5_ n6_ n7_));have hnb37:=NB173_147.out;have hnc37:=NB147_173.out;have hnb38:=NB173_148.out;have hnc38:=NB148_173.out;have hnb39:=NB173_149.out;have hnc39:=NB149_173.out;have hnb40:=NB173_150.out;have hnc40:=NB150_173.out;have hnb41:=NB173_160.out;have hnc41:=NB160_173.out;have hnb42:=NB173_161.out;have hnc42:=NB161_173.out;have hcz43_0:wr.cell? ⟨gb173,0,none⟩=some (.int .i64 x174000_2):=(blk_cell BK173.out 0).trans rfl;have hcz43_1:wr.cell? ⟨gb173,1,none⟩=some (.int .i64 x174001_2):=(blk_cell BK173.out 1).trans rfl;have hcz43_2:wr.cell? ⟨gb173,2,none⟩=some (.int .i64 x174002_2):=(blk_cell BK173.out 2).trans rfl;have hcz43_3:wr.cell? ⟨gb173,3,none⟩=some (.int .i64 x174003_2):=(blk_cell BK173.out 3).trans rfl;have hfz43_0:=blk_frozen BK173.out 0;have hfz43_1:=blk_frozen BK173.out 1;have hfz43_2:=blk_frozen BK173.out 2;have hfz43_3:=blk_frozen BK173.out 3))
        go_roundg k2
        case measure=>have:=HK1.out;have:=HK2.out;omega
        case rel=>exact ⟨(wrap64 (x12_2 + (wrap64 ((wrap64 (t156 - (wrap64 ((wrap64 (t174 * 2)) * t151)))) * (wrap64 (t156 - (wrap64 ((wrap64 (t174 * 2)) * t151)))))))),(1),(t174),(x174001_2),(x174002_2),(x174003_2),(by first|rfl|(simp;done)|(simp [*];done)),(by first|rfl|(simp;done)|(simp [*];done)),H',⟨by have:=HK1.out;have:=HK2.out;omega⟩,⟨by refine blk_far ?_ NB147_173.out _;exact BK147.out⟩,⟨by refine blk_far ?_ NB148_173.out _;exact BK148.out⟩,⟨by refine blk_far ?_ NB149_173.out _;exact BK149.out⟩,⟨by refine blk_far ?_ NB150_173.out _;exact BK150.out⟩,⟨by refine blk_far ?_ NB160_173.out _;exact BK160.out⟩,⟨by refine blk_far ?_ NB161_173.out _;exact BK161.out⟩,⟨by refine blk_put (cs:=#[.int .i64 x174000_2,.int .i64 x174001_2,.int .i64 x174002_2,.int .i64 x174003_2]) ?_ 0 _ rfl;exact BK173.out⟩,⟨by repeat (first|(with_reducible first|exact HB.out|apply below_alloc|apply pw_below_drewN|apply below_drew1|refine below_set ?_ GE147.out|refine below_set ?_ GE148.out|refine below_set ?_ GE149.out|refine below_set ?_ GE150.out|refine below_set ?_ GE160.out|refine below_set ?_ GE161.out|refine below_set ?_ GE173.out)|exact HB.out)⟩⟩
       ·
        rw [if_neg c35] at H
        by_cases c44:x26_2=1
        ·
         subst c44;have H1:((norm_nearest.f t157 (wrap64 (2 * t151)) x22_1).bind fun t175=>(norm_divide.l1 k2 t151 x9_1 x22_1 (wrap64 (x12_2 + (wrap64 ((wrap64 (t157 - (wrap64 ((wrap64 (t175 * 2)) * t151)))) * (wrap64 (t157 - (wrap64 ((wrap64 (t175 * 2)) * t151)))))))) x22_1 2 t159 t158 t157 t156 a0_0 a0_1 a0_2 a0_3 a1_0 a1_1 a1_2 a1_3 t156 t157 t158 t159 x162000_1 x162001_1 x162002_1 x162003_1 x174000_2 t175 x174002_2 x174003_2))=some (r1,r2,r3,r4,r5,r6,r7,r8):=by (try rw [if_pos rfl] at H);first|exact H|simpa using H
         clear H;have H:=H1;clear H1;replace H:=Option.bind_eq_some_iff.mp H;obtain ⟨t175,A450,H⟩:=H;(try dsimp only at H);have A45:=mk0 A450;clear A450;have H':=mk0 H;clear H;go_wp2_with (first|((with_reducible refine gate_callee (f:=72) rfl ?_);refine goesL_ (some 35) rfl rfl Try.func72 (by kernel_rfl) rfl #[.int .i64 t157,.int .i64 (wrap64 (2 * t151)),.int .i64 x22_1] rfl (by (try simp only [List.map_toArray,List.map_cons,List.map_nil]);first|done|rfl|(simp only [List.length_drop,List.length_take];rfl)) ?_;(with_reducible refine (norm_nearest.calls t157 (wrap64 (2 * t151)) x22_1 t175 _ A45.out).mono ?_);rintro e w' ⟨rfl,⟨nd,rfl⟩⟩;refine ⟨_,rfl,?_⟩;(try (rw [drewN_self wr];generalize hq_:World.drewN wr _=wr;have n0_:Aside0 (wr.heap[gb147]?=some (.cells #[.int .i64 a0_0,.int .i64 a0_1,.int .i64 a0_2,.int .i64 a0_3] 67 (0,0))):=⟨by rw [← hq_];exact (by (with_reducible repeat (first|refine blk_drewN ?_ _|refine blk_drew ?_|refine blk_alloc ?_ _));exact BK147.out)⟩;have n1_:Aside0 (wr.heap[gb148]?=some (.cells #[.int .i64 a1_0,.int .i64 a1_1,.int .i64 a1_2,.int .i64 a1_3] 67 (0,0))):=⟨by rw [← hq_];exact (by (with_reducible repeat (first|refine blk_drewN ?_ _|refine blk_drew ?_|refine blk_alloc ?_ _));exact BK148.out)⟩;have n2_:Aside0 (wr.heap[gb149]?=some (.cells #[.int .i64 0,.int .i64 0,.int .i64 0,.int .i64 0] 67 (0,0))):=⟨by rw [← hq_];exact (by (with_reducible repeat (first|refine blk_drewN ?_ _|refine blk_drew ?_|refine blk_alloc ?_ _));exact BK149.out)⟩;have n3_:Aside0 (wr.heap[gb150]?=some (.cells #[.int .i64 0,.int .i64 0,.int .i64 0,.int .i64 0] 67 (0,0))):=⟨by rw [← hq_];exact (by (with_reducible repeat (first|refine blk_drewN ?_ _|refine blk_drew ?_|refine blk_alloc ?_ _));exact BK150.out)⟩;have n4_:Aside0 (wr.heap[gb160]?=some (.cells #[.int .i64 t156,.int .i64 t157,.int .i64 t158,.int .i64 t159] 67 (0,0))):=⟨by rw [← hq_];exact (by (with_reducible repeat (first|refine blk_drewN ?_ _|refine blk_drew ?_|refine blk_alloc ?_ _));exact BK160.out)⟩;have n5_:Aside0 (wr.heap[gb161]?=some (.cells #[.int .i64 x162000_1,.int .i64 x162001_1,.int .i64 x162002_1,.int .i64 x162003_1] 67 (0,0))):=⟨by rw [← hq_];exact (by (with_reducible repeat (first|refine blk_drewN ?_ _|refine blk_drew ?_|refine blk_alloc ?_ _));exact BK161.out)⟩;have n6_:Aside0 (wr.heap[gb173]?=some (.cells #[.int .i64 x174000_2,.int .i64 x174001_2,.int .i64 x174002_2,.int .i64 x174003_2] 67 (0,0))):=⟨by rw [← hq_];exact (by (with_reducible repeat (first|refine blk_drewN ?_ _|refine blk_drew ?_|refine blk_alloc ?_ _));exact BK173.out)⟩;have n7_:Aside0 (Below w.heap.size w wr):=⟨by rw [← hq_];exact (by repeat (first|(with_reducible first|exact HB.out|apply below_alloc|apply pw_below_drewN|apply below_drew1|refine below_set ?_ GE147.out|refine below_set ?_ GE148.out|refine below_set ?_ GE149.out|refine below_set ?_ GE150.out|refine below_set ?_ GE160.out|refine below_set ?_ GE161.out|refine below_set ?_ GE173.out)|exact HB.out))⟩;clear BK147 BK148 BK149 BK150 BK160 BK161 BK173 HB hq_;have BK147:=n0_;have BK148:=n1_;have BK149:=n2_;have BK150:=n3_;have BK160:=n4_;have BK161:=n5_;have BK173:=n6_;have HB:=n7_;clear n0_ n1_ n2_ n3_ n4_ n5_ n6_ n7_));have hnb46:=NB173_147.out;have hnc46:=NB147_173.out;have hnb47:=NB173_148.out;have hnc47:=NB148_173.out;have hnb48:=NB173_149.out;have hnc48:=NB149_173.out;have hnb49:=NB173_150.out;have hnc49:=NB150_173.out;have hnb50:=NB173_160.out;have hnc50:=NB160_173.out;have hnb51:=NB173_161.out;have hnc51:=NB161_173.out;have hcz52_0:wr.cell? ⟨gb173,0,none⟩=some (.int .i64 x174000_2):=(blk_cell BK173.out 0).trans rfl;have hcz52_1:wr.cell? ⟨gb173,1,none⟩=some (.int .i64 x174001_2):=(blk_cell BK173.out 1).trans rfl;have hcz52_2:wr.cell? ⟨gb173,2,none⟩=some (.int .i64 x174002_2):=(blk_cell BK173.out 2).trans rfl;have hcz52_3:wr.cell? ⟨gb173,3,none⟩=some (.int .i64 x174003_2):=(blk_cell BK173.out 3).trans rfl;have hfz52_0:=blk_frozen BK173.out 0;have hfz52_1:=blk_frozen BK173.out 1;have hfz52_2:=blk_frozen BK173.out 2;have hfz52_3:=blk_frozen BK173.out 3))
         go_roundg k2
         case measure=>have:=HK1.out;have:=HK2.out;omega
         case rel=>exact ⟨(wrap64 (x12_2 + (wrap64 ((wrap64 (t157 - (wrap64 ((wrap64 (t175 * 2)) * t151)))) * (wrap64 (t157 - (wrap64 ((wrap64 (t175 * 2)) * t151)))))))),(2),(x174000_2),(t175),(x174002_2),(x174003_2),(by first|rfl|(simp;done)|(simp [*];done)),(by first|rfl|(simp;done)|(simp [*];done)),H',⟨by have:=HK1.out;have:=HK2.out;omega⟩,⟨by refine blk_far ?_ NB147_173.out _;exact BK147.out⟩,⟨by refine blk_far ?_ NB148_173.out _;exact BK148.out⟩,⟨by refine blk_far ?_ NB149_173.out _;exact BK149.out⟩,⟨by refine blk_far ?_ NB150_173.out _;exact BK150.out⟩,⟨by refine blk_far ?_ NB160_173.out _;exact BK160.out⟩,⟨by refine blk_far ?_ NB161_173.out _;exact BK161.out⟩,⟨by refine blk_put (cs:=#[.int .i64 x174000_2,.int .i64 x174001_2,.int .i64 x174002_2,.int .i64 x174003_2]) ?_ 1 _ rfl;exact BK173.out⟩,⟨by repeat (first|(with_reducible first|exact HB.out|apply below_alloc|apply pw_below_drewN|apply below_drew1|refine below_set ?_ GE147.out|refine below_set ?_ GE148.out|refine below_set ?_ GE149.out|refine below_set ?_ GE150.out|refine below_set ?_ GE160.out|refine below_set ?_ GE161.out|refine below_set ?_ GE173.out)|exact HB.out)⟩⟩
        ·
         rw [if_neg c44] at H
         by_cases c53:x26_2=2
         ·
          subst c53;have H1:((norm_nearest.f t158 (wrap64 (2 * t151)) x22_1).bind fun t176=>(norm_divide.l1 k2 t151 x9_1 x22_1 (wrap64 (x12_2 + (wrap64 ((wrap64 (t158 - (wrap64 ((wrap64 (t176 * 2)) * t151)))) * (wrap64 (t158 - (wrap64 ((wrap64 (t176 * 2)) * t151)))))))) x22_1 3 t159 t158 t157 t156 a0_0 a0_1 a0_2 a0_3 a1_0 a1_1 a1_2 a1_3 t156 t157 t158 t159 x162000_1 x162001_1 x162002_1 x162003_1 x174000_2 x174001_2 t176 x174003_2))=some (r1,r2,r3,r4,r5,r6,r7,r8):=by (try rw [if_pos rfl] at H);first|exact H|simpa using H
          clear H;have H:=H1;clear H1;replace H:=Option.bind_eq_some_iff.mp H;obtain ⟨t176,A540,H⟩:=H;(try dsimp only at H);have A54:=mk0 A540;clear A540;have H':=mk0 H;clear H;go_wp2_with (first|((with_reducible refine gate_callee (f:=72) rfl ?_);refine goesL_ (some 35) rfl rfl Try.func72 (by kernel_rfl) rfl #[.int .i64 t158,.int .i64 (wrap64 (2 * t151)),.int .i64 x22_1] rfl (by (try simp only [List.map_toArray,List.map_cons,List.map_nil]);first|done|rfl|(simp only [List.length_drop,List.length_take];rfl)) ?_;(with_reducible refine (norm_nearest.calls t158 (wrap64 (2 * t151)) x22_1 t176 _ A54.out).mono ?_);rintro e w' ⟨rfl,⟨nd,rfl⟩⟩;refine ⟨_,rfl,?_⟩;(try (rw [drewN_self wr];generalize hq_:World.drewN wr _=wr;have n0_:Aside0 (wr.heap[gb147]?=some (.cells #[.int .i64 a0_0,.int .i64 a0_1,.int .i64 a0_2,.int .i64 a0_3] 67 (0,0))):=⟨by rw [← hq_];exact (by (with_reducible repeat (first|refine blk_drewN ?_ _|refine blk_drew ?_|refine blk_alloc ?_ _));exact BK147.out)⟩;have n1_:Aside0 (wr.heap[gb148]?=some (.cells #[.int .i64 a1_0,.int .i64 a1_1,.int .i64 a1_2,.int .i64 a1_3] 67 (0,0))):=⟨by rw [← hq_];exact (by (with_reducible repeat (first|refine blk_drewN ?_ _|refine blk_drew ?_|refine blk_alloc ?_ _));exact BK148.out)⟩;have n2_:Aside0 (wr.heap[gb149]?=some (.cells #[.int .i64 0,.int .i64 0,.int .i64 0,.int .i64 0] 67 (0,0))):=⟨by rw [← hq_];exact (by (with_reducible repeat (first|refine blk_drewN ?_ _|refine blk_drew ?_|refine blk_alloc ?_ _));exact BK149.out)⟩;have n3_:Aside0 (wr.heap[gb150]?=some (.cells #[.int .i64 0,.int .i64 0,.int .i64 0,.int .i64 0] 67 (0,0))):=⟨by rw [← hq_];exact (by (with_reducible repeat (first|refine blk_drewN ?_ _|refine blk_drew ?_|refine blk_alloc ?_ _));exact BK150.out)⟩;have n4_:Aside0 (wr.heap[gb160]?=some (.cells #[.int .i64 t156,.int .i64 t157,.int .i64 t158,.int .i64 t159] 67 (0,0))):=⟨by rw [← hq_];exact (by (with_reducible repeat (first|refine blk_drewN ?_ _|refine blk_drew ?_|refine blk_alloc ?_ _));exact BK160.out)⟩;have n5_:Aside0 (wr.heap[gb161]?=some (.cells #[.int .i64 x162000_1,.int .i64 x162001_1,.int .i64 x162002_1,.int .i64 x162003_1] 67 (0,0))):=⟨by rw [← hq_];exact (by (with_reducible repeat (first|refine blk_drewN ?_ _|refine blk_drew ?_|refine blk_alloc ?_ _));exact BK161.out)⟩;have n6_:Aside0 (wr.heap[gb173]?=some (.cells #[.int .i64 x174000_2,.int .i64 x174001_2,.int .i64 x174002_2,.int .i64 x174003_2] 67 (0,0))):=⟨by rw [← hq_];exact (by (with_reducible repeat (first|refine blk_drewN ?_ _|refine blk_drew ?_|refine blk_alloc ?_ _));exact BK173.out)⟩;have n7_:Aside0 (Below w.heap.size w wr):=⟨by rw [← hq_];exact (by repeat (first|(with_reducible first|exact HB.out|apply below_alloc|apply pw_below_drewN|apply below_drew1|refine below_set ?_ GE147.out|refine below_set ?_ GE148.out|refine below_set ?_ GE149.out|refine below_set ?_ GE150.out|refine below_set ?_ GE160.out|refine below_set ?_ GE161.out|refine below_set ?_ GE173.out)|exact HB.out))⟩;clear BK147 BK148 BK149 BK150 BK160 BK161 BK173 HB hq_;have BK147:=n0_;have BK148:=n1_;have BK149:=n2_;have BK150:=n3_;have BK160:=n4_;have BK161:=n5_;have BK173:=n6_;have HB:=n7_;clear n0_ n1_ n2_ n3_ n4_ n5_ n6_ n7_));have hnb55:=NB173_147.out;have hnc55:=NB147_173.out;have hnb56:=NB173_148.out;have hnc56:=NB148_173.out;have hnb57:=NB173_149.out;have hnc57:=NB149_173.out;have hnb58:=NB173_150.out;have hnc58:=NB150_173.out;have hnb59:=NB173_160.out;have hnc59:=NB160_173.out;have hnb60:=NB173_161.out;have hnc60:=NB161_173.out;have hcz61_0:wr.cell? ⟨gb173,0,none⟩=some (.int .i64 x174000_2):=(blk_cell BK173.out 0).trans rfl;have hcz61_1:wr.cell? ⟨gb173,1,none⟩=some (.int .i64 x174001_2):=(blk_cell BK173.out 1).trans rfl;have hcz61_2:wr.cell? ⟨gb173,2,none⟩=some (.int .i64 x174002_2):=(blk_cell BK173.out 2).trans rfl;have hcz61_3:wr.cell? ⟨gb173,3,none⟩=some (.int .i64 x174003_2):=(blk_cell BK173.out 3).trans rfl;have hfz61_0:=blk_frozen BK173.out 0;have hfz61_1:=blk_frozen BK173.out 1;have hfz61_2:=blk_frozen BK173.out 2;have hfz61_3:=blk_frozen BK173.out 3))
          go_roundg k2
          case measure=>have:=HK1.out;have:=HK2.out;omega
          case rel=>exact ⟨(wrap64 (x12_2 + (wrap64 ((wrap64 (t158 - (wrap64 ((wrap64 (t176 * 2)) * t151)))) * (wrap64 (t158 - (wrap64 ((wrap64 (t176 * 2)) * t151)))))))),(3),(x174000_2),(x174001_2),(t176),(x174003_2),(by first|rfl|(simp;done)|(simp [*];done)),(by first|rfl|(simp;done)|(simp [*];done)),H',⟨by have:=HK1.out;have:=HK2.out;omega⟩,⟨by refine blk_far ?_ NB147_173.out _;exact BK147.out⟩,⟨by refine blk_far ?_ NB148_173.out _;exact BK148.out⟩,⟨by refine blk_far ?_ NB149_173.out _;exact BK149.out⟩,⟨by refine blk_far ?_ NB150_173.out _;exact BK150.out⟩,⟨by refine blk_far ?_ NB160_173.out _;exact BK160.out⟩,⟨by refine blk_far ?_ NB161_173.out _;exact BK161.out⟩,⟨by refine blk_put (cs:=#[.int .i64 x174000_2,.int .i64 x174001_2,.int .i64 x174002_2,.int .i64 x174003_2]) ?_ 2 _ rfl;exact BK173.out⟩,⟨by repeat (first|(with_reducible first|exact HB.out|apply below_alloc|apply pw_below_drewN|apply below_drew1|refine below_set ?_ GE147.out|refine below_set ?_ GE148.out|refine below_set ?_ GE149.out|refine below_set ?_ GE150.out|refine below_set ?_ GE160.out|refine below_set ?_ GE161.out|refine below_set ?_ GE173.out)|exact HB.out)⟩⟩
         ·
          rw [if_neg c53] at H
          by_cases c62:x26_2=3
          ·
           subst c62;have H1:((norm_nearest.f t159 (wrap64 (2 * t151)) x22_1).bind fun t177=>(norm_divide.l1 k2 t151 x9_1 x22_1 (wrap64 (x12_2 + (wrap64 ((wrap64 (t159 - (wrap64 ((wrap64 (t177 * 2)) * t151)))) * (wrap64 (t159 - (wrap64 ((wrap64 (t177 * 2)) * t151)))))))) x22_1 4 t159 t158 t157 t156 a0_0 a0_1 a0_2 a0_3 a1_0 a1_1 a1_2 a1_3 t156 t157 t158 t159 x162000_1 x162001_1 x162002_1 x162003_1 x174000_2 x174001_2 x174002_2 t177))=some (r1,r2,r3,r4,r5,r6,r7,r8):=by (try rw [if_pos rfl] at H);first|exact H|simpa using H
           clear H;have H:=H1;clear H1;replace H:=Option.bind_eq_some_iff.mp H;obtain ⟨t177,A630,H⟩:=H;(try dsimp only at H);have A63:=mk0 A630;clear A630;have H':=mk0 H;clear H;go_wp2_with (first|((with_reducible refine gate_callee (f:=72) rfl ?_);refine goesL_ (some 35) rfl rfl Try.func72 (by kernel_rfl) rfl #[.int .i64 t159,.int .i64 (wrap64 (2 * t151)),.int .i64 x22_1] rfl (by (try simp only [List.map_toArray,List.map_cons,List.map_nil]);first|done|rfl|(simp only [List.length_drop,List.length_take];rfl)) ?_;(with_reducible refine (norm_nearest.calls t159 (wrap64 (2 * t151)) x22_1 t177 _ A63.out).mono ?_);rintro e w' ⟨rfl,⟨nd,rfl⟩⟩;refine ⟨_,rfl,?_⟩;(try (rw [drewN_self wr];generalize hq_:World.drewN wr _=wr;have n0_:Aside0 (wr.heap[gb147]?=some (.cells #[.int .i64 a0_0,.int .i64 a0_1,.int .i64 a0_2,.int .i64 a0_3] 67 (0,0))):=⟨by rw [← hq_];exact (by (with_reducible repeat (first|refine blk_drewN ?_ _|refine blk_drew ?_|refine blk_alloc ?_ _));exact BK147.out)⟩;have n1_:Aside0 (wr.heap[gb148]?=some (.cells #[.int .i64 a1_0,.int .i64 a1_1,.int .i64 a1_2,.int .i64 a1_3] 67 (0,0))):=⟨by rw [← hq_];exact (by (with_reducible repeat (first|refine blk_drewN ?_ _|refine blk_drew ?_|refine blk_alloc ?_ _));exact BK148.out)⟩;have n2_:Aside0 (wr.heap[gb149]?=some (.cells #[.int .i64 0,.int .i64 0,.int .i64 0,.int .i64 0] 67 (0,0))):=⟨by rw [← hq_];exact (by (with_reducible repeat (first|refine blk_drewN ?_ _|refine blk_drew ?_|refine blk_alloc ?_ _));exact BK149.out)⟩;have n3_:Aside0 (wr.heap[gb150]?=some (.cells #[.int .i64 0,.int .i64 0,.int .i64 0,.int .i64 0] 67 (0,0))):=⟨by rw [← hq_];exact (by (with_reducible repeat (first|refine blk_drewN ?_ _|refine blk_drew ?_|refine blk_alloc ?_ _));exact BK150.out)⟩;have n4_:Aside0 (wr.heap[gb160]?=some (.cells #[.int .i64 t156,.int .i64 t157,.int .i64 t158,.int .i64 t159] 67 (0,0))):=⟨by rw [← hq_];exact (by (with_reducible repeat (first|refine blk_drewN ?_ _|refine blk_drew ?_|refine blk_alloc ?_ _));exact BK160.out)⟩;have n5_:Aside0 (wr.heap[gb161]?=some (.cells #[.int .i64 x162000_1,.int .i64 x162001_1,.int .i64 x162002_1,.int .i64 x162003_1] 67 (0,0))):=⟨by rw [← hq_];exact (by (with_reducible repeat (first|refine blk_drewN ?_ _|refine blk_drew ?_|refine blk_alloc ?_ _));exact BK161.out)⟩;have n6_:Aside0 (wr.heap[gb173]?=some (.cells #[.int .i64 x174000_2,.int .i64 x174001_2,.int .i64 x174002_2,.int .i64 x174003_2] 67 (0,0))):=⟨by rw [← hq_];exact (by (with_reducible repeat (first|refine blk_drewN ?_ _|refine blk_drew ?_|refine blk_alloc ?_ _));exact BK173.out)⟩;have n7_:Aside0 (Below w.heap.size w wr):=⟨by rw [← hq_];exact (by repeat (first|(with_reducible first|exact HB.out|apply below_alloc|apply pw_below_drewN|apply below_drew1|refine below_set ?_ GE147.out|refine below_set ?_ GE148.out|refine below_set ?_ GE149.out|refine below_set ?_ GE150.out|refine below_set ?_ GE160.out|refine below_set ?_ GE161.out|refine below_set ?_ GE173.out)|exact HB.out))⟩;clear BK147 BK148 BK149 BK150 BK160 BK161 BK173 HB hq_;have BK147:=n0_;have BK148:=n1_;have BK149:=n2_;have BK150:=n3_;have BK160:=n4_;have BK161:=n5_;have BK173:=n6_;have HB:=n7_;clear n0_ n1_ n2_ n3_ n4_ n5_ n6_ n7_));have hnb64:=NB173_147.out;have hnc64:=NB147_173.out;have hnb65:=NB173_148.out;have hnc65:=NB148_173.out;have hnb66:=NB173_149.out;have hnc66:=NB149_173.out;have hnb67:=NB173_150.out;have hnc67:=NB150_173.out;have hnb68:=NB173_160.out;have hnc68:=NB160_173.out;have hnb69:=NB173_161.out;have hnc69:=NB161_173.out;have hcz70_0:wr.cell? ⟨gb173,0,none⟩=some (.int .i64 x174000_2):=(blk_cell BK173.out 0).trans rfl;have hcz70_1:wr.cell? ⟨gb173,1,none⟩=some (.int .i64 x174001_2):=(blk_cell BK173.out 1).trans rfl;have hcz70_2:wr.cell? ⟨gb173,2,none⟩=some (.int .i64 x174002_2):=(blk_cell BK173.out 2).trans rfl;have hcz70_3:wr.cell? ⟨gb173,3,none⟩=some (.int .i64 x174003_2):=(blk_cell BK173.out 3).trans rfl;have hfz70_0:=blk_frozen BK173.out 0;have hfz70_1:=blk_frozen BK173.out 1;have hfz70_2:=blk_frozen BK173.out 2;have hfz70_3:=blk_frozen BK173.out 3))
           go_roundg k2
           case measure=>have:=HK1.out;have:=HK2.out;omega
           case rel=>exact ⟨(wrap64 (x12_2 + (wrap64 ((wrap64 (t159 - (wrap64 ((wrap64 (t177 * 2)) * t151)))) * (wrap64 (t159 - (wrap64 ((wrap64 (t177 * 2)) * t151)))))))),(4),(x174000_2),(x174001_2),(x174002_2),(t177),(by first|rfl|(simp;done)|(simp [*];done)),(by first|rfl|(simp;done)|(simp [*];done)),H',⟨by have:=HK1.out;have:=HK2.out;omega⟩,⟨by refine blk_far ?_ NB147_173.out _;exact BK147.out⟩,⟨by refine blk_far ?_ NB148_173.out _;exact BK148.out⟩,⟨by refine blk_far ?_ NB149_173.out _;exact BK149.out⟩,⟨by refine blk_far ?_ NB150_173.out _;exact BK150.out⟩,⟨by refine blk_far ?_ NB160_173.out _;exact BK160.out⟩,⟨by refine blk_far ?_ NB161_173.out _;exact BK161.out⟩,⟨by refine blk_put (cs:=#[.int .i64 x174000_2,.int .i64 x174001_2,.int .i64 x174002_2,.int .i64 x174003_2]) ?_ 3 _ rfl;exact BK173.out⟩,⟨by repeat (first|(with_reducible first|exact HB.out|apply below_alloc|apply pw_below_drewN|apply below_drew1|refine below_set ?_ GE147.out|refine below_set ?_ GE148.out|refine below_set ?_ GE149.out|refine below_set ?_ GE150.out|refine below_set ?_ GE160.out|refine below_set ?_ GE161.out|refine below_set ?_ GE173.out)|exact HB.out)⟩⟩
          ·
           rw [if_neg c62] at H;exact absurd H (by simp)
      ·
       rw [if_neg c34] at H;have c34b0:decide (x26_2 < 4)=false:=decide_eq_false c34;clear c34
       by_cases c71:x9_1 < 0
       ·
        rw [if_pos c71] at H;have c71b0:decide (x9_1 < 0)=true:=decide_eq_true c71;clear c71;have H':=mk0 H;clear H;try go_wp2
        replace BK147:=bdr BK147;replace BK148:=bdr BK148;replace BK149:=bdr BK149;replace BK150:=bdr BK150;replace BK160:=bdr BK160;replace BK161:=bdr BK161;replace BK173:=bdr BK173;replace HB:=hdr HB;refine start_ (n:=18) (S:=fun w'=>True) (ds:=[]) #[false,false,false,false,false,false,false,false,false,false,false,false,false,false,false,false,false,false] (by kernel_rfl) rfl rfl trivial (fun hHeld=>?_);refine with_tabW norm_divide.tab17 norm_divide.bits17 (fun HT_ HW_=>?_);generalize wr.drew=w72 at BK147 BK148 BK149 BK150 BK160 BK161 BK173 HB hHeld ⊢;refine pure_ (i:=0) (N:=some 51) (v:=?_) (a':=?_) #[true,false,false,false,false,false,false,false,false,false,false,false,false,false,false,false,false,false] rfl rfl (any_of HT_.out (by kernel_rfl)) (fun _ _ _ h=>h) (Or.inl ⟨by rfl,?_⟩) ?_ ?_;rotate_left
        ·
         intro w';go_simp;with_reducible rfl
        rotate_left
        ·
         simp only [Act.put,List.setIfInBounds_toArray,List.set_cons_zero,List.set_cons_succ,i64_w,i32_w];rfl
        refine pure_ (i:=1) (N:=some 52) (v:=?_) (a':=?_) #[true,true,false,false,false,false,false,false,false,false,false,false,false,false,false,false,false,false] rfl rfl (any_of HT_.out (by kernel_rfl)) (fun _ _ _ h=>h) (Or.inl ⟨by rfl,?_⟩) ?_ ?_;rotate_left
        ·
         intro w';go_simp;with_reducible rfl
        rotate_left
        ·
         simp only [Act.put,List.setIfInBounds_toArray,List.set_cons_zero,List.set_cons_succ,i64_w,i32_w];rfl
        refine pure_ (i:=2) (N:=some 53) (v:=?_) (a':=?_) #[true,true,true,false,false,false,false,false,false,false,false,false,false,false,false,false,false,false] rfl rfl (any_of HT_.out (by kernel_rfl)) (fun _ _ _ h=>h) (Or.inl ⟨by rfl,?_⟩) ?_ ?_;rotate_left
        ·
         intro w';go_simp;with_reducible rfl
        rotate_left
        ·
         simp only [Act.put,List.setIfInBounds_toArray,List.set_cons_zero,List.set_cons_succ,i64_w,i32_w];rfl
        refine pure_ (i:=3) (N:=some 54) (v:=undef) (a':=?_) #[true,true,true,true,false,false,false,false,false,false,false,false,false,false,false,false,false,false] rfl rfl (any_of HT_.out (by kernel_rfl)) (fun _ _ _ h=>h) (Or.inr ⟨by rfl,rfl⟩) ?_ ?_;rotate_left
        ·
         simp only [Act.put,List.setIfInBounds_toArray,List.set_cons_zero,List.set_cons_succ,i64_w,i32_w];rfl
        refine pure_ (i:=4) (N:=some 55) (v:=undef) (a':=?_) #[true,true,true,true,true,false,false,false,false,false,false,false,false,false,false,false,false,false] rfl rfl (any_of HT_.out (by kernel_rfl)) (fun _ _ _ h=>h) (Or.inr ⟨by rfl,rfl⟩) ?_ ?_;rotate_left
        ·
         simp only [Act.put,List.setIfInBounds_toArray,List.set_cons_zero,List.set_cons_succ,i64_w,i32_w];rfl
        refine pure_ (i:=5) (N:=some 56) (v:=undef) (a':=?_) #[true,true,true,true,true,true,false,false,false,false,false,false,false,false,false,false,false,false] rfl rfl (any_of HT_.out (by kernel_rfl)) (fun _ _ _ h=>h) (Or.inr ⟨by rfl,rfl⟩) ?_ ?_;rotate_left
        ·
         simp only [Act.put,List.setIfInBounds_toArray,List.set_cons_zero,List.set_cons_succ,i64_w,i32_w];rfl
        refine pure_ (i:=6) (N:=some 57) (v:=?_) (a':=?_) #[true,true,true,true,true,true,true,false,false,false,false,false,false,false,false,false,false,false] rfl rfl (any_of HT_.out (by kernel_rfl)) (fun _ _ _ h=>h) (Or.inl ⟨by rfl,?_⟩) ?_ ?_;rotate_left
        ·
         intro w';go_simp;with_reducible rfl
        rotate_left
        ·
         simp only [Act.put,List.setIfInBounds_toArray,List.set_cons_zero,List.set_cons_succ,i64_w,i32_w];rfl
        refine pure_ (i:=7) (N:=some 58) (v:=?_) (a':=?_) #[true,true,true,true,true,true,true,true,false,false,false,false,false,false,false,false,false,false] rfl rfl (any_of HT_.out (by kernel_rfl)) (fun _ _ _ h=>h) (Or.inl ⟨by rfl,?_⟩) ?_ ?_;rotate_left
        ·
         intro w';go_simp;with_reducible rfl
        rotate_left
        ·
         simp only [Act.put,List.setIfInBounds_toArray,List.set_cons_zero,List.set_cons_succ,i64_w,i32_w];rfl
        refine pure_ (i:=8) (N:=some 59) (v:=undef) (a':=?_) #[true,true,true,true,true,true,true,true,true,false,false,false,false,false,false,false,false,false] rfl rfl (any_of HT_.out (by kernel_rfl)) (fun _ _ _ h=>h) (Or.inr ⟨by rfl,rfl⟩) ?_ ?_;rotate_left
        ·
         simp only [Act.put,List.setIfInBounds_toArray,List.set_cons_zero,List.set_cons_succ,i64_w,i32_w];rfl
        refine pure_ (i:=9) (N:=some 60) (v:=undef) (a':=?_) #[true,true,true,true,true,true,true,true,true,true,false,false,false,false,false,false,false,false] rfl rfl (any_of HT_.out (by kernel_rfl)) (fun _ _ _ h=>h) (Or.inr ⟨by rfl,rfl⟩) ?_ ?_;rotate_left
        ·
         simp only [Act.put,List.setIfInBounds_toArray,List.set_cons_zero,List.set_cons_succ,i64_w,i32_w];rfl
        refine pure_ (i:=10) (N:=some 61) (v:=undef) (a':=?_) #[true,true,true,true,true,true,true,true,true,true,true,false,false,false,false,false,false,false] rfl rfl (any_of HT_.out (by kernel_rfl)) (fun _ _ _ h=>h) (Or.inr ⟨by rfl,rfl⟩) ?_ ?_;rotate_left
        ·
         simp only [Act.put,List.setIfInBounds_toArray,List.set_cons_zero,List.set_cons_succ,i64_w,i32_w];rfl
        refine pure_ (i:=11) (N:=some 62) (v:=undef) (a':=?_) #[true,true,true,true,true,true,true,true,true,true,true,true,false,false,false,false,false,false] rfl rfl (any_of HT_.out (by kernel_rfl)) (fun _ _ _ h=>h) (Or.inr ⟨by rfl,rfl⟩) ?_ ?_;rotate_left
        ·
         simp only [Act.put,List.setIfInBounds_toArray,List.set_cons_zero,List.set_cons_succ,i64_w,i32_w];rfl
        refine pure_ (i:=12) (N:=some 63) (v:=undef) (a':=?_) #[true,true,true,true,true,true,true,true,true,true,true,true,true,false,false,false,false,false] rfl rfl (any_of HT_.out (by kernel_rfl)) (fun _ _ _ h=>h) (Or.inr ⟨by rfl,rfl⟩) ?_ ?_;rotate_left
        ·
         simp only [Act.put,List.setIfInBounds_toArray,List.set_cons_zero,List.set_cons_succ,i64_w,i32_w];rfl
        refine pure_ (i:=13) (N:=some 64) (v:=undef) (a':=?_) #[true,true,true,true,true,true,true,true,true,true,true,true,true,true,false,false,false,false] rfl rfl (any_of HT_.out (by kernel_rfl)) (fun _ _ _ h=>h) (Or.inr ⟨by rfl,rfl⟩) ?_ ?_;rotate_left
        ·
         simp only [Act.put,List.setIfInBounds_toArray,List.set_cons_zero,List.set_cons_succ,i64_w,i32_w];rfl
        refine pure_ (i:=14) (N:=some 65) (v:=undef) (a':=?_) #[true,true,true,true,true,true,true,true,true,true,true,true,true,true,true,false,false,false] rfl rfl (any_of HT_.out (by kernel_rfl)) (fun _ _ _ h=>h) (Or.inr ⟨by rfl,rfl⟩) ?_ ?_;rotate_left
        ·
         simp only [Act.put,List.setIfInBounds_toArray,List.set_cons_zero,List.set_cons_succ,i64_w,i32_w];rfl
        refine pure_ (i:=15) (N:=some 66) (v:=undef) (a':=?_) #[true,true,true,true,true,true,true,true,true,true,true,true,true,true,true,true,false,false] rfl rfl (any_of HT_.out (by kernel_rfl)) (fun _ _ _ h=>h) (Or.inr ⟨by rfl,rfl⟩) ?_ ?_;rotate_left
        ·
         simp only [Act.put,List.setIfInBounds_toArray,List.set_cons_zero,List.set_cons_succ,i64_w,i32_w];rfl
        refine pure_ (i:=16) (N:=some 67) (v:=undef) (a':=?_) #[true,true,true,true,true,true,true,true,true,true,true,true,true,true,true,true,true,false] rfl rfl (any_of HT_.out (by kernel_rfl)) (fun _ _ _ h=>h) (Or.inr ⟨by rfl,rfl⟩) ?_ ?_;rotate_left
        ·
         simp only [Act.put,List.setIfInBounds_toArray,List.set_cons_zero,List.set_cons_succ,i64_w,i32_w];rfl
        refine pure_ (i:=17) (N:=some 68) (v:=?_) (a':=?_) #[true,true,true,true,true,true,true,true,true,true,true,true,true,true,true,true,true,true] rfl rfl (any_of HT_.out (by kernel_rfl)) (fun _ _ _ h=>h) (Or.inl ⟨by rfl,?_⟩) ?_ ?_;rotate_left
        ·
         intro w';go_simp;with_reducible rfl
        rotate_left
        ·
         simp only [Act.put,List.setIfInBounds_toArray,List.set_cons_zero,List.set_cons_succ,i64_w,i32_w];rfl
        refine done_ (done_of HT_.out (by kernel_rfl)) ?_;have hnb73:=NB173_147.out;have hnc73:=NB147_173.out;have hnb74:=NB173_148.out;have hnc74:=NB148_173.out;have hnb75:=NB173_149.out;have hnc75:=NB149_173.out;have hnb76:=NB173_150.out;have hnc76:=NB150_173.out;have hnb77:=NB173_160.out;have hnc77:=NB160_173.out;have hnb78:=NB173_161.out;have hnc78:=NB161_173.out;have hcz79_0:w72.cell? ⟨gb173,0,none⟩=some (.int .i64 x174000_2):=(blk_cell BK173.out 0).trans rfl;have hcz79_1:w72.cell? ⟨gb173,1,none⟩=some (.int .i64 x174001_2):=(blk_cell BK173.out 1).trans rfl;have hcz79_2:w72.cell? ⟨gb173,2,none⟩=some (.int .i64 x174002_2):=(blk_cell BK173.out 2).trans rfl;have hcz79_3:w72.cell? ⟨gb173,3,none⟩=some (.int .i64 x174003_2):=(blk_cell BK173.out 3).trans rfl;have hfz79_0:=blk_frozen BK173.out 0;have hfz79_1:=blk_frozen BK173.out 1;have hfz79_2:=blk_frozen BK173.out 2;have hfz79_3:=blk_frozen BK173.out 3;have hnb80:=NB161_147.out;have hnc80:=NB147_161.out;have hnb81:=NB161_148.out;have hnc81:=NB148_161.out;have hnb82:=NB161_149.out;have hnc82:=NB149_161.out;have hnb83:=NB161_150.out;have hnc83:=NB150_161.out;have hnb84:=NB161_160.out;have hnc84:=NB160_161.out;have hcz85_0:w72.cell? ⟨gb161,0,none⟩=some (.int .i64 x162000_1):=(blk_cell BK161.out 0).trans rfl;have hcz85_1:w72.cell? ⟨gb161,1,none⟩=some (.int .i64 x162001_1):=(blk_cell BK161.out 1).trans rfl;have hcz85_2:w72.cell? ⟨gb161,2,none⟩=some (.int .i64 x162002_1):=(blk_cell BK161.out 2).trans rfl;have hcz85_3:w72.cell? ⟨gb161,3,none⟩=some (.int .i64 x162003_1):=(blk_cell BK161.out 3).trans rfl;have hfz85_0:=blk_frozen BK161.out 0;have hfz85_1:=blk_frozen BK161.out 1;have hfz85_2:=blk_frozen BK161.out 2;have hfz85_3:=blk_frozen BK161.out 3;try go_wp2
        go_roundg k2
        case measure=>have:=HK1.out;have:=HK2.out;omega
        case rel=>exact ⟨(x12_2),(wrap64 (x22_1 + 1)),(x174000_2),(x174001_2),(x174002_2),(x174003_2),(by first|rfl|(simp;done)|(simp [*];done)),(by first|rfl|(simp;done)|(simp [*];done)),H',⟨by have:=HK1.out;have:=HK2.out;omega⟩,⟨by (iterate 4 refine blk_far ?_ NB147_161.out _);exact BK147.out⟩,⟨by (iterate 4 refine blk_far ?_ NB148_161.out _);exact BK148.out⟩,⟨by (iterate 4 refine blk_far ?_ NB149_161.out _);exact BK149.out⟩,⟨by (iterate 4 refine blk_far ?_ NB150_161.out _);exact BK150.out⟩,⟨by (iterate 4 refine blk_far ?_ NB160_161.out _);exact BK160.out⟩,⟨by refine blk_put (cs:=#[.int .i64 x174000_2,.int .i64 x174001_2,.int .i64 x174002_2,.int .i64 x162003_1]) ?_ 3 _ rfl;refine blk_put (cs:=#[.int .i64 x174000_2,.int .i64 x174001_2,.int .i64 x162002_1,.int .i64 x162003_1]) ?_ 2 _ rfl;refine blk_put (cs:=#[.int .i64 x174000_2,.int .i64 x162001_1,.int .i64 x162002_1,.int .i64 x162003_1]) ?_ 1 _ rfl;refine blk_put (cs:=#[.int .i64 x162000_1,.int .i64 x162001_1,.int .i64 x162002_1,.int .i64 x162003_1]) ?_ 0 _ rfl;exact BK161.out⟩,⟨by repeat (first|(with_reducible first|exact HB.out|apply below_alloc|apply pw_below_drewN|apply below_drew1|refine below_set ?_ GE147.out|refine below_set ?_ GE148.out|refine below_set ?_ GE149.out|refine below_set ?_ GE150.out|refine below_set ?_ GE160.out|refine below_set ?_ GE161.out|refine below_set ?_ GE173.out)|exact HB.out)⟩⟩
       ·
        rw [if_neg c71] at H;have c71b0:decide (x9_1 < 0)=false:=decide_eq_false c71;clear c71
        by_cases c86:x12_2 < x9_1
        ·
         rw [if_pos c86] at H;have c86b0:decide (x12_2 < x9_1)=true:=decide_eq_true c86;clear c86;have H':=mk0 H;clear H;try go_wp2
         replace BK147:=bdr BK147;replace BK148:=bdr BK148;replace BK149:=bdr BK149;replace BK150:=bdr BK150;replace BK160:=bdr BK160;replace BK161:=bdr BK161;replace BK173:=bdr BK173;replace HB:=hdr HB;refine start_ (n:=18) (S:=fun w'=>True) (ds:=[]) #[false,false,false,false,false,false,false,false,false,false,false,false,false,false,false,false,false,false] (by kernel_rfl) rfl rfl trivial (fun hHeld=>?_);refine with_tabW norm_divide.tab17 norm_divide.bits17 (fun HT_ HW_=>?_);generalize wr.drew=w87 at BK147 BK148 BK149 BK150 BK160 BK161 BK173 HB hHeld ⊢;refine pure_ (i:=0) (N:=some 51) (v:=?_) (a':=?_) #[true,false,false,false,false,false,false,false,false,false,false,false,false,false,false,false,false,false] rfl rfl (any_of HT_.out (by kernel_rfl)) (fun _ _ _ h=>h) (Or.inl ⟨by rfl,?_⟩) ?_ ?_;rotate_left
         ·
          intro w';go_simp;with_reducible rfl
         rotate_left
         ·
          simp only [Act.put,List.setIfInBounds_toArray,List.set_cons_zero,List.set_cons_succ,i64_w,i32_w];rfl
         refine pure_ (i:=1) (N:=some 52) (v:=?_) (a':=?_) #[true,true,false,false,false,false,false,false,false,false,false,false,false,false,false,false,false,false] rfl rfl (any_of HT_.out (by kernel_rfl)) (fun _ _ _ h=>h) (Or.inl ⟨by rfl,?_⟩) ?_ ?_;rotate_left
         ·
          intro w';go_simp;with_reducible rfl
         rotate_left
         ·
          simp only [Act.put,List.setIfInBounds_toArray,List.set_cons_zero,List.set_cons_succ,i64_w,i32_w];rfl
         refine pure_ (i:=2) (N:=some 53) (v:=?_) (a':=?_) #[true,true,true,false,false,false,false,false,false,false,false,false,false,false,false,false,false,false] rfl rfl (any_of HT_.out (by kernel_rfl)) (fun _ _ _ h=>h) (Or.inl ⟨by rfl,?_⟩) ?_ ?_;rotate_left
         ·
          intro w';go_simp;with_reducible rfl
         rotate_left
         ·
          simp only [Act.put,List.setIfInBounds_toArray,List.set_cons_zero,List.set_cons_succ,i64_w,i32_w];rfl
         refine pure_ (i:=3) (N:=some 54) (v:=?_) (a':=?_) #[true,true,true,true,false,false,false,false,false,false,false,false,false,false,false,false,false,false] rfl rfl (any_of HT_.out (by kernel_rfl)) (fun _ _ _ h=>h) (Or.inl ⟨by rfl,?_⟩) ?_ ?_;rotate_left
         ·
          intro w';go_simp;with_reducible rfl
         rotate_left
         ·
          simp only [Act.put,List.setIfInBounds_toArray,List.set_cons_zero,List.set_cons_succ,i64_w,i32_w];rfl
         refine pure_ (i:=4) (N:=some 55) (v:=?_) (a':=?_) #[true,true,true,true,true,false,false,false,false,false,false,false,false,false,false,false,false,false] rfl rfl (any_of HT_.out (by kernel_rfl)) (fun _ _ _ h=>h) (Or.inl ⟨by rfl,?_⟩) ?_ ?_;rotate_left
         ·
          intro w';go_simp;with_reducible rfl
         rotate_left
         ·
          simp only [Act.put,List.setIfInBounds_toArray,List.set_cons_zero,List.set_cons_succ,i64_w,i32_w];rfl
         refine pure_ (i:=5) (N:=some 56) (v:=?_) (a':=?_) #[true,true,true,true,true,true,false,false,false,false,false,false,false,false,false,false,false,false] rfl rfl (any_of HT_.out (by kernel_rfl)) (fun _ _ _ h=>h) (Or.inl ⟨by rfl,?_⟩) ?_ ?_;rotate_left
         ·
          intro w';go_simp;with_reducible rfl
         rotate_left
         ·
          simp only [Act.put,List.setIfInBounds_toArray,List.set_cons_zero,List.set_cons_succ,i64_w,i32_w];rfl
         refine pure_ (i:=6) (N:=some 57) (v:=?_) (a':=?_) #[true,true,true,true,true,true,true,false,false,false,false,false,false,false,false,false,false,false] rfl rfl (any_of HT_.out (by kernel_rfl)) (fun _ _ _ h=>h) (Or.inl ⟨by rfl,?_⟩) ?_ ?_;rotate_left
         ·
          intro w';go_simp;with_reducible rfl
         rotate_left
         ·
          simp only [Act.put,List.setIfInBounds_toArray,List.set_cons_zero,List.set_cons_succ,i64_w,i32_w];rfl
         refine pure_ (i:=7) (N:=some 58) (v:=?_) (a':=?_) #[true,true,true,true,true,true,true,true,false,false,false,false,false,false,false,false,false,false] rfl rfl (any_of HT_.out (by kernel_rfl)) (fun _ _ _ h=>h) (Or.inl ⟨by rfl,?_⟩) ?_ ?_;rotate_left
         ·
          intro w';go_simp;with_reducible rfl
         rotate_left
         ·
          simp only [Act.put,List.setIfInBounds_toArray,List.set_cons_zero,List.set_cons_succ,i64_w,i32_w];rfl
         refine pure_ (i:=8) (N:=some 59) (v:=undef) (a':=?_) #[true,true,true,true,true,true,true,true,true,false,false,false,false,false,false,false,false,false] rfl rfl (any_of HT_.out (by kernel_rfl)) (fun _ _ _ h=>h) (Or.inr ⟨by rfl,rfl⟩) ?_ ?_;rotate_left
         ·
          simp only [Act.put,List.setIfInBounds_toArray,List.set_cons_zero,List.set_cons_succ,i64_w,i32_w];rfl
         refine pure_ (i:=9) (N:=some 60) (v:=undef) (a':=?_) #[true,true,true,true,true,true,true,true,true,true,false,false,false,false,false,false,false,false] rfl rfl (any_of HT_.out (by kernel_rfl)) (fun _ _ _ h=>h) (Or.inr ⟨by rfl,rfl⟩) ?_ ?_;rotate_left
         ·
          simp only [Act.put,List.setIfInBounds_toArray,List.set_cons_zero,List.set_cons_succ,i64_w,i32_w];rfl
         refine pure_ (i:=10) (N:=some 61) (v:=undef) (a':=?_) #[true,true,true,true,true,true,true,true,true,true,true,false,false,false,false,false,false,false] rfl rfl (any_of HT_.out (by kernel_rfl)) (fun _ _ _ h=>h) (Or.inr ⟨by rfl,rfl⟩) ?_ ?_;rotate_left
         ·
          simp only [Act.put,List.setIfInBounds_toArray,List.set_cons_zero,List.set_cons_succ,i64_w,i32_w];rfl
         refine pure_ (i:=11) (N:=some 62) (v:=undef) (a':=?_) #[true,true,true,true,true,true,true,true,true,true,true,true,false,false,false,false,false,false] rfl rfl (any_of HT_.out (by kernel_rfl)) (fun _ _ _ h=>h) (Or.inr ⟨by rfl,rfl⟩) ?_ ?_;rotate_left
         ·
          simp only [Act.put,List.setIfInBounds_toArray,List.set_cons_zero,List.set_cons_succ,i64_w,i32_w];rfl
         refine pure_ (i:=12) (N:=some 63) (v:=undef) (a':=?_) #[true,true,true,true,true,true,true,true,true,true,true,true,true,false,false,false,false,false] rfl rfl (any_of HT_.out (by kernel_rfl)) (fun _ _ _ h=>h) (Or.inr ⟨by rfl,rfl⟩) ?_ ?_;rotate_left
         ·
          simp only [Act.put,List.setIfInBounds_toArray,List.set_cons_zero,List.set_cons_succ,i64_w,i32_w];rfl
         refine pure_ (i:=13) (N:=some 64) (v:=undef) (a':=?_) #[true,true,true,true,true,true,true,true,true,true,true,true,true,true,false,false,false,false] rfl rfl (any_of HT_.out (by kernel_rfl)) (fun _ _ _ h=>h) (Or.inr ⟨by rfl,rfl⟩) ?_ ?_;rotate_left
         ·
          simp only [Act.put,List.setIfInBounds_toArray,List.set_cons_zero,List.set_cons_succ,i64_w,i32_w];rfl
         refine pure_ (i:=14) (N:=some 65) (v:=undef) (a':=?_) #[true,true,true,true,true,true,true,true,true,true,true,true,true,true,true,false,false,false] rfl rfl (any_of HT_.out (by kernel_rfl)) (fun _ _ _ h=>h) (Or.inr ⟨by rfl,rfl⟩) ?_ ?_;rotate_left
         ·
          simp only [Act.put,List.setIfInBounds_toArray,List.set_cons_zero,List.set_cons_succ,i64_w,i32_w];rfl
         refine pure_ (i:=15) (N:=some 66) (v:=undef) (a':=?_) #[true,true,true,true,true,true,true,true,true,true,true,true,true,true,true,true,false,false] rfl rfl (any_of HT_.out (by kernel_rfl)) (fun _ _ _ h=>h) (Or.inr ⟨by rfl,rfl⟩) ?_ ?_;rotate_left
         ·
          simp only [Act.put,List.setIfInBounds_toArray,List.set_cons_zero,List.set_cons_succ,i64_w,i32_w];rfl
         refine pure_ (i:=16) (N:=some 67) (v:=undef) (a':=?_) #[true,true,true,true,true,true,true,true,true,true,true,true,true,true,true,true,true,false] rfl rfl (any_of HT_.out (by kernel_rfl)) (fun _ _ _ h=>h) (Or.inr ⟨by rfl,rfl⟩) ?_ ?_;rotate_left
         ·
          simp only [Act.put,List.setIfInBounds_toArray,List.set_cons_zero,List.set_cons_succ,i64_w,i32_w];rfl
         refine pure_ (i:=17) (N:=some 68) (v:=?_) (a':=?_) #[true,true,true,true,true,true,true,true,true,true,true,true,true,true,true,true,true,true] rfl rfl (any_of HT_.out (by kernel_rfl)) (fun _ _ _ h=>h) (Or.inl ⟨by rfl,?_⟩) ?_ ?_;rotate_left
         ·
          intro w';go_simp;with_reducible rfl
         rotate_left
         ·
          simp only [Act.put,List.setIfInBounds_toArray,List.set_cons_zero,List.set_cons_succ,i64_w,i32_w];rfl
         refine done_ (done_of HT_.out (by kernel_rfl)) ?_;have hnb88:=NB173_147.out;have hnc88:=NB147_173.out;have hnb89:=NB173_148.out;have hnc89:=NB148_173.out;have hnb90:=NB173_149.out;have hnc90:=NB149_173.out;have hnb91:=NB173_150.out;have hnc91:=NB150_173.out;have hnb92:=NB173_160.out;have hnc92:=NB160_173.out;have hnb93:=NB173_161.out;have hnc93:=NB161_173.out;have hcz94_0:w87.cell? ⟨gb173,0,none⟩=some (.int .i64 x174000_2):=(blk_cell BK173.out 0).trans rfl;have hcz94_1:w87.cell? ⟨gb173,1,none⟩=some (.int .i64 x174001_2):=(blk_cell BK173.out 1).trans rfl;have hcz94_2:w87.cell? ⟨gb173,2,none⟩=some (.int .i64 x174002_2):=(blk_cell BK173.out 2).trans rfl;have hcz94_3:w87.cell? ⟨gb173,3,none⟩=some (.int .i64 x174003_2):=(blk_cell BK173.out 3).trans rfl;have hfz94_0:=blk_frozen BK173.out 0;have hfz94_1:=blk_frozen BK173.out 1;have hfz94_2:=blk_frozen BK173.out 2;have hfz94_3:=blk_frozen BK173.out 3;have hnb95:=NB161_147.out;have hnc95:=NB147_161.out;have hnb96:=NB161_148.out;have hnc96:=NB148_161.out;have hnb97:=NB161_149.out;have hnc97:=NB149_161.out;have hnb98:=NB161_150.out;have hnc98:=NB150_161.out;have hnb99:=NB161_160.out;have hnc99:=NB160_161.out;have hcz100_0:w87.cell? ⟨gb161,0,none⟩=some (.int .i64 x162000_1):=(blk_cell BK161.out 0).trans rfl;have hcz100_1:w87.cell? ⟨gb161,1,none⟩=some (.int .i64 x162001_1):=(blk_cell BK161.out 1).trans rfl;have hcz100_2:w87.cell? ⟨gb161,2,none⟩=some (.int .i64 x162002_1):=(blk_cell BK161.out 2).trans rfl;have hcz100_3:w87.cell? ⟨gb161,3,none⟩=some (.int .i64 x162003_1):=(blk_cell BK161.out 3).trans rfl;have hfz100_0:=blk_frozen BK161.out 0;have hfz100_1:=blk_frozen BK161.out 1;have hfz100_2:=blk_frozen BK161.out 2;have hfz100_3:=blk_frozen BK161.out 3;try go_wp2
         go_roundg k2
         case measure=>have:=HK1.out;have:=HK2.out;omega
         case rel=>exact ⟨(x12_2),(wrap64 (x22_1 + 1)),(x174000_2),(x174001_2),(x174002_2),(x174003_2),(by first|rfl|(simp;done)|(simp [*];done)),(by first|rfl|(simp;done)|(simp [*];done)),H',⟨by have:=HK1.out;have:=HK2.out;omega⟩,⟨by (iterate 4 refine blk_far ?_ NB147_161.out _);exact BK147.out⟩,⟨by (iterate 4 refine blk_far ?_ NB148_161.out _);exact BK148.out⟩,⟨by (iterate 4 refine blk_far ?_ NB149_161.out _);exact BK149.out⟩,⟨by (iterate 4 refine blk_far ?_ NB150_161.out _);exact BK150.out⟩,⟨by (iterate 4 refine blk_far ?_ NB160_161.out _);exact BK160.out⟩,⟨by refine blk_put (cs:=#[.int .i64 x174000_2,.int .i64 x174001_2,.int .i64 x174002_2,.int .i64 x162003_1]) ?_ 3 _ rfl;refine blk_put (cs:=#[.int .i64 x174000_2,.int .i64 x174001_2,.int .i64 x162002_1,.int .i64 x162003_1]) ?_ 2 _ rfl;refine blk_put (cs:=#[.int .i64 x174000_2,.int .i64 x162001_1,.int .i64 x162002_1,.int .i64 x162003_1]) ?_ 1 _ rfl;refine blk_put (cs:=#[.int .i64 x162000_1,.int .i64 x162001_1,.int .i64 x162002_1,.int .i64 x162003_1]) ?_ 0 _ rfl;exact BK161.out⟩,⟨by repeat (first|(with_reducible first|exact HB.out|apply below_alloc|apply pw_below_drewN|apply below_drew1|refine below_set ?_ GE147.out|refine below_set ?_ GE148.out|refine below_set ?_ GE149.out|refine below_set ?_ GE150.out|refine below_set ?_ GE160.out|refine below_set ?_ GE161.out|refine below_set ?_ GE173.out)|exact HB.out)⟩⟩
        ·
         rw [if_neg c86] at H;have c86b0:decide (x12_2 < x9_1)=false:=decide_eq_false c86;clear c86
         by_cases c101:x12_2=x9_1
         ·
          rw [if_pos c101] at H;have c101b0:(x12_2 == x9_1)=true:=beq_iff_eq.mpr c101;have c101b1:(x12_2 != x9_1)=false:=bne_eq_false_iff_eq.mpr c101;clear c101;replace H:=Option.bind_eq_some_iff.mp H;obtain ⟨t178,A1020,H⟩:=H;(try dsimp only at H);have A102:=mk0 A1020;clear A1020
          by_cases c103:t178 < 0
          ·
           rw [if_pos c103] at H;have c103b0:decide (t178 < 0)=true:=decide_eq_true c103;clear c103;have H':=mk0 H;clear H;try go_wp2
           replace BK147:=bdr BK147;replace BK148:=bdr BK148;replace BK149:=bdr BK149;replace BK150:=bdr BK150;replace BK160:=bdr BK160;replace BK161:=bdr BK161;replace BK173:=bdr BK173;replace HB:=hdr HB;refine start_ (n:=18) (S:=fun w'=>w'.cell? ⟨gb173,0,none⟩=some (.int .i64 x174000_2)∧w'.cell? ⟨gb173,1,none⟩=some (.int .i64 x174001_2)∧w'.cell? ⟨gb173,2,none⟩=some (.int .i64 x174002_2)∧w'.cell? ⟨gb173,3,none⟩=some (.int .i64 x174003_2)∧w'.cell? ⟨gb161,0,none⟩=some (.int .i64 x162000_1)∧w'.cell? ⟨gb161,1,none⟩=some (.int .i64 x162001_1)∧w'.cell? ⟨gb161,2,none⟩=some (.int .i64 x162002_1)∧w'.cell? ⟨gb161,3,none⟩=some (.int .i64 x162003_1)) (ds:=[]) #[false,false,false,false,false,false,false,false,false,false,false,false,false,false,false,false,false,false] (by kernel_rfl) rfl rfl ⟨(blk_cell BK173.out 0).trans rfl,(blk_cell BK173.out 1).trans rfl,(blk_cell BK173.out 2).trans rfl,(blk_cell BK173.out 3).trans rfl,(blk_cell BK161.out 0).trans rfl,(blk_cell BK161.out 1).trans rfl,(blk_cell BK161.out 2).trans rfl,(blk_cell BK161.out 3).trans rfl⟩ (fun hHeld=>?_);refine with_tabW norm_divide.tab17 norm_divide.bits17 (fun HT_ HW_=>?_);generalize wr.drew=w104 at BK147 BK148 BK149 BK150 BK160 BK161 BK173 HB hHeld ⊢;refine pure_ (i:=0) (N:=some 51) (v:=?_) (a':=?_) #[true,false,false,false,false,false,false,false,false,false,false,false,false,false,false,false,false,false] rfl rfl (any_of HT_.out (by kernel_rfl)) (fun _ _ _ h=>h) (Or.inl ⟨by rfl,?_⟩) ?_ ?_;rotate_left
           ·
            intro w';go_simp;with_reducible rfl
           rotate_left
           ·
            simp only [Act.put,List.setIfInBounds_toArray,List.set_cons_zero,List.set_cons_succ,i64_w,i32_w];rfl
           refine pure_ (i:=1) (N:=some 52) (v:=?_) (a':=?_) #[true,true,false,false,false,false,false,false,false,false,false,false,false,false,false,false,false,false] rfl rfl (any_of HT_.out (by kernel_rfl)) (fun _ _ _ h=>h) (Or.inl ⟨by rfl,?_⟩) ?_ ?_;rotate_left
           ·
            intro w';go_simp;with_reducible rfl
           rotate_left
           ·
            simp only [Act.put,List.setIfInBounds_toArray,List.set_cons_zero,List.set_cons_succ,i64_w,i32_w];rfl
           refine pure_ (i:=2) (N:=some 53) (v:=?_) (a':=?_) #[true,true,true,false,false,false,false,false,false,false,false,false,false,false,false,false,false,false] rfl rfl (any_of HT_.out (by kernel_rfl)) (fun _ _ _ h=>h) (Or.inl ⟨by rfl,?_⟩) ?_ ?_;rotate_left
           ·
            intro w';go_simp;with_reducible rfl
           rotate_left
           ·
            simp only [Act.put,List.setIfInBounds_toArray,List.set_cons_zero,List.set_cons_succ,i64_w,i32_w];rfl
           refine pure_ (i:=3) (N:=some 54) (v:=?_) (a':=?_) #[true,true,true,true,false,false,false,false,false,false,false,false,false,false,false,false,false,false] rfl rfl (any_of HT_.out (by kernel_rfl)) (fun _ _ _ h=>h) (Or.inl ⟨by rfl,?_⟩) ?_ ?_;rotate_left
           ·
            intro w';go_simp;with_reducible rfl
           rotate_left
           ·
            simp only [Act.put,List.setIfInBounds_toArray,List.set_cons_zero,List.set_cons_succ,i64_w,i32_w];rfl
           refine pure_ (i:=4) (N:=some 55) (v:=?_) (a':=?_) #[true,true,true,true,true,false,false,false,false,false,false,false,false,false,false,false,false,false] rfl rfl (any_of HT_.out (by kernel_rfl)) (fun _ _ _ h=>h) (Or.inl ⟨by rfl,?_⟩) ?_ ?_;rotate_left
           ·
            intro w';go_simp;with_reducible rfl
           rotate_left
           ·
            simp only [Act.put,List.setIfInBounds_toArray,List.set_cons_zero,List.set_cons_succ,i64_w,i32_w];rfl
           refine pure_ (i:=5) (N:=some 56) (v:=?_) (a':=?_) #[true,true,true,true,true,true,false,false,false,false,false,false,false,false,false,false,false,false] rfl rfl (any_of HT_.out (by kernel_rfl)) (fun _ _ _ h=>h) (Or.inl ⟨by rfl,?_⟩) ?_ ?_;rotate_left
           ·
            intro w';go_simp;with_reducible rfl
           rotate_left
           ·
            simp only [Act.put,List.setIfInBounds_toArray,List.set_cons_zero,List.set_cons_succ,i64_w,i32_w];rfl
           refine pure_ (i:=6) (N:=some 57) (v:=?_) (a':=?_) #[true,true,true,true,true,true,true,false,false,false,false,false,false,false,false,false,false,false] rfl rfl (any_of HT_.out (by kernel_rfl)) (fun _ _ _ h=>h) (Or.inl ⟨by rfl,?_⟩) ?_ ?_;rotate_left
           ·
            intro w';go_simp;with_reducible rfl
           rotate_left
           ·
            simp only [Act.put,List.setIfInBounds_toArray,List.set_cons_zero,List.set_cons_succ,i64_w,i32_w];rfl
           refine pure_ (i:=7) (N:=some 58) (v:=?_) (a':=?_) #[true,true,true,true,true,true,true,true,false,false,false,false,false,false,false,false,false,false] rfl rfl (any_of HT_.out (by kernel_rfl)) (fun _ _ _ h=>h) (Or.inl ⟨by rfl,?_⟩) ?_ ?_;rotate_left
           ·
            intro w';go_simp;with_reducible rfl
           rotate_left
           ·
            simp only [Act.put,List.setIfInBounds_toArray,List.set_cons_zero,List.set_cons_succ,i64_w,i32_w];rfl
           refine pure_ (i:=8) (N:=some 59) (v:=?_) (a':=?_) #[true,true,true,true,true,true,true,true,true,false,false,false,false,false,false,false,false,false] rfl rfl (any_of HT_.out (by kernel_rfl)) (fun _ _ _ h=>h) (Or.inl ⟨by rfl,?_⟩) ?_ ?_;rotate_left
           ·
            intro w';go_simp;with_reducible rfl
           rotate_left
           ·
            simp only [Act.put,List.setIfInBounds_toArray,List.set_cons_zero,List.set_cons_succ,i64_w,i32_w];rfl
           refine pure_ (i:=9) (N:=some 60) (v:=?_) (a':=?_) #[true,true,true,true,true,true,true,true,true,true,false,false,false,false,false,false,false,false] rfl rfl (any_of HT_.out (by kernel_rfl)) (fun _ _ _ h=>h) (Or.inl ⟨by rfl,?_⟩) ?_ ?_;rotate_left
           ·
            intro w';go_simp;with_reducible rfl
           rotate_left
           ·
            simp only [Act.put,List.setIfInBounds_toArray,List.set_cons_zero,List.set_cons_succ,i64_w,i32_w];rfl
           refine pure_ (i:=10) (N:=some 61) (v:=?_) (a':=?_) #[true,true,true,true,true,true,true,true,true,true,true,false,false,false,false,false,false,false] rfl rfl (any_of HT_.out (by kernel_rfl)) (fun _ _ _ h=>h) (Or.inl ⟨by rfl,?_⟩) ?_ ?_;rotate_left
           ·
            intro w';go_simp;with_reducible rfl
           rotate_left
           ·
            simp only [Act.put,List.setIfInBounds_toArray,List.set_cons_zero,List.set_cons_succ,i64_w,i32_w];rfl
           refine pure_ (i:=11) (N:=some 62) (v:=?_) (a':=?_) #[true,true,true,true,true,true,true,true,true,true,true,true,false,false,false,false,false,false] rfl rfl (any_of HT_.out (by kernel_rfl)) (fun _ _ _ h=>h) (Or.inl ⟨by rfl,?_⟩) ?_ ?_;rotate_left
           ·
            intro w';go_simp;with_reducible rfl
           rotate_left
           ·
            simp only [Act.put,List.setIfInBounds_toArray,List.set_cons_zero,List.set_cons_succ,i64_w,i32_w];rfl
           refine pure_ (i:=12) (N:=some 63) (v:=?_) (a':=?_) #[true,true,true,true,true,true,true,true,true,true,true,true,true,false,false,false,false,false] rfl rfl (any_of HT_.out (by kernel_rfl)) (fun _ _ _ h=>h) (Or.inl ⟨by rfl,?_⟩) ?_ ?_;rotate_left
           ·
            intro w';go_simp;with_reducible rfl
           rotate_left
           ·
            simp only [Act.put,List.setIfInBounds_toArray,List.set_cons_zero,List.set_cons_succ,i64_w,i32_w];rfl
           refine pure_ (i:=13) (N:=some 64) (v:=?_) (a':=?_) #[true,true,true,true,true,true,true,true,true,true,true,true,true,true,false,false,false,false] rfl rfl (any_of HT_.out (by kernel_rfl)) (fun _ _ _ h=>h) (Or.inl ⟨by rfl,?_⟩) ?_ ?_;rotate_left
           ·
            intro w';go_simp;with_reducible rfl
           rotate_left
           ·
            simp only [Act.put,List.setIfInBounds_toArray,List.set_cons_zero,List.set_cons_succ,i64_w,i32_w];rfl
           refine one_ (i:=14) (N:=some 65) #[true,true,true,true,true,true,true,true,true,true,true,true,true,true,true,false,false,false] rfl rfl (one_of HT_.out (by kernel_rfl)) (by decide) (fun K hK=>?_);refine goes_ Try.func55 (by kernel_rfl) rfl #[.slice (some ⟨gb173,0,none⟩) [x174000_2,x174001_2,x174002_2,x174003_2].length 4,.slice (some ⟨gb161,0,none⟩) [x162000_1,x162001_1,x162002_1,x162003_1].length 4] (by rfl) rfl rfl (by (try simp only [List.map_toArray,List.map_cons,List.map_nil]);first|done|(rw [show [x174000_2,x174001_2,x174002_2,x174003_2].length=4 from rfl,show [x162000_1,x162001_1,x162002_1,x162003_1].length=4 from rfl] <;> rfl)|rfl|(simp only [List.length_drop,List.length_take];rfl)) ?_;with_reducible refine (slices_Compare_int_int.calls k2 _ _ [x174000_2,x174001_2,x174002_2,x174003_2] _ _ [x162000_1,x162001_1,x162002_1,x162003_1] t178 _ ?side1 ?side2 ?side3 ?side4 A102.out).mono ?_
           (case side1=>exact Go.Proofs.MyWords.C_box (t:=67) (cs:=#[.int .i64 x174000_2,.int .i64 x174001_2,.int .i64 x174002_2,.int .i64 x174003_2]) BK173.out (by rfl) (Nat.le_of_ble_eq_true rfl));(case side2=>exact Nat.le_refl _);(case side3=>exact Go.Proofs.MyWords.C_box (t:=67) (cs:=#[.int .i64 x162000_1,.int .i64 x162001_1,.int .i64 x162002_1,.int .i64 x162003_1]) BK161.out (by rfl) (Nat.le_of_ble_eq_true rfl));(case side4=>exact Nat.le_refl _);rintro e w' ⟨rfl,⟨nd,rfl⟩⟩;refine ⟨_,rfl,?_⟩;refine hK.out _ _ ⟨(blk_cell BK173.out 0).trans rfl,(blk_cell BK173.out 1).trans rfl,(blk_cell BK173.out 2).trans rfl,(blk_cell BK173.out 3).trans rfl,(blk_cell BK161.out 0).trans rfl,(blk_cell BK161.out 1).trans rfl,(blk_cell BK161.out 2).trans rfl,(blk_cell BK161.out 3).trans rfl⟩ (fun hHeld=>?_);clear hK K;refine norm_ (a':=?_) ?_ ?_;rotate_left
           ·
            show Act.put _ (some 65) _=_;simp only [Act.put,List.setIfInBounds_toArray,List.set_cons_zero,List.set_cons_succ,i64_w,i32_w];rfl
           refine pure_ (i:=15) (N:=some 66) (v:=?_) (a':=?_) #[true,true,true,true,true,true,true,true,true,true,true,true,true,true,true,true,false,false] rfl rfl (any_of HT_.out (by kernel_rfl)) (fun _ _ _ h=>h) (Or.inl ⟨by rfl,?_⟩) ?_ ?_;rotate_left
           ·
            intro w';go_simp;with_reducible rfl
           rotate_left
           ·
            simp only [Act.put,List.setIfInBounds_toArray,List.set_cons_zero,List.set_cons_succ,i64_w,i32_w];rfl
           refine pure_ (i:=16) (N:=some 67) (v:=?_) (a':=?_) #[true,true,true,true,true,true,true,true,true,true,true,true,true,true,true,true,true,false] rfl rfl (any_of HT_.out (by kernel_rfl)) (fun _ _ _ h=>h) (Or.inl ⟨by rfl,?_⟩) ?_ ?_;rotate_left
           ·
            intro w';go_simp;with_reducible rfl
           rotate_left
           ·
            simp only [Act.put,List.setIfInBounds_toArray,List.set_cons_zero,List.set_cons_succ,i64_w,i32_w];rfl
           refine pure_ (i:=17) (N:=some 68) (v:=?_) (a':=?_) #[true,true,true,true,true,true,true,true,true,true,true,true,true,true,true,true,true,true] rfl rfl (any_of HT_.out (by kernel_rfl)) (fun _ _ _ h=>h) (Or.inl ⟨by rfl,?_⟩) ?_ ?_;rotate_left
           ·
            intro w';go_simp;with_reducible rfl
           rotate_left
           ·
            simp only [Act.put,List.setIfInBounds_toArray,List.set_cons_zero,List.set_cons_succ,i64_w,i32_w];rfl
           refine done_ (done_of HT_.out (by kernel_rfl)) ?_;have hnb105:=NB173_147.out;have hnc105:=NB147_173.out;have hnb106:=NB173_148.out;have hnc106:=NB148_173.out;have hnb107:=NB173_149.out;have hnc107:=NB149_173.out;have hnb108:=NB173_150.out;have hnc108:=NB150_173.out;have hnb109:=NB173_160.out;have hnc109:=NB160_173.out;have hnb110:=NB173_161.out;have hnc110:=NB161_173.out;have hcz111_0:w104.cell? ⟨gb173,0,none⟩=some (.int .i64 x174000_2):=(blk_cell BK173.out 0).trans rfl;have hcz111_1:w104.cell? ⟨gb173,1,none⟩=some (.int .i64 x174001_2):=(blk_cell BK173.out 1).trans rfl;have hcz111_2:w104.cell? ⟨gb173,2,none⟩=some (.int .i64 x174002_2):=(blk_cell BK173.out 2).trans rfl;have hcz111_3:w104.cell? ⟨gb173,3,none⟩=some (.int .i64 x174003_2):=(blk_cell BK173.out 3).trans rfl;have hfz111_0:=blk_frozen BK173.out 0;have hfz111_1:=blk_frozen BK173.out 1;have hfz111_2:=blk_frozen BK173.out 2;have hfz111_3:=blk_frozen BK173.out 3;have hnb112:=NB161_147.out;have hnc112:=NB147_161.out;have hnb113:=NB161_148.out;have hnc113:=NB148_161.out;have hnb114:=NB161_149.out;have hnc114:=NB149_161.out;have hnb115:=NB161_150.out;have hnc115:=NB150_161.out;have hnb116:=NB161_160.out;have hnc116:=NB160_161.out;have hcz117_0:w104.cell? ⟨gb161,0,none⟩=some (.int .i64 x162000_1):=(blk_cell BK161.out 0).trans rfl;have hcz117_1:w104.cell? ⟨gb161,1,none⟩=some (.int .i64 x162001_1):=(blk_cell BK161.out 1).trans rfl;have hcz117_2:w104.cell? ⟨gb161,2,none⟩=some (.int .i64 x162002_1):=(blk_cell BK161.out 2).trans rfl;have hcz117_3:w104.cell? ⟨gb161,3,none⟩=some (.int .i64 x162003_1):=(blk_cell BK161.out 3).trans rfl;have hfz117_0:=blk_frozen BK161.out 0;have hfz117_1:=blk_frozen BK161.out 1;have hfz117_2:=blk_frozen BK161.out 2;have hfz117_3:=blk_frozen BK161.out 3;try go_wp2
           go_roundg k2
           case measure=>have:=HK1.out;have:=HK2.out;omega
           case rel=>exact ⟨(x12_2),(wrap64 (x22_1 + 1)),(x174000_2),(x174001_2),(x174002_2),(x174003_2),(by first|rfl|(simp;done)|(simp [*];done)),(by first|rfl|(simp;done)|(simp [*];done)),H',⟨by have:=HK1.out;have:=HK2.out;omega⟩,⟨by (iterate 4 refine blk_far ?_ NB147_161.out _);exact BK147.out⟩,⟨by (iterate 4 refine blk_far ?_ NB148_161.out _);exact BK148.out⟩,⟨by (iterate 4 refine blk_far ?_ NB149_161.out _);exact BK149.out⟩,⟨by (iterate 4 refine blk_far ?_ NB150_161.out _);exact BK150.out⟩,⟨by (iterate 4 refine blk_far ?_ NB160_161.out _);exact BK160.out⟩,⟨by refine blk_put (cs:=#[.int .i64 x174000_2,.int .i64 x174001_2,.int .i64 x174002_2,.int .i64 x162003_1]) ?_ 3 _ rfl;refine blk_put (cs:=#[.int .i64 x174000_2,.int .i64 x174001_2,.int .i64 x162002_1,.int .i64 x162003_1]) ?_ 2 _ rfl;refine blk_put (cs:=#[.int .i64 x174000_2,.int .i64 x162001_1,.int .i64 x162002_1,.int .i64 x162003_1]) ?_ 1 _ rfl;refine blk_put (cs:=#[.int .i64 x162000_1,.int .i64 x162001_1,.int .i64 x162002_1,.int .i64 x162003_1]) ?_ 0 _ rfl;exact BK161.out⟩,⟨by repeat (first|(with_reducible first|exact HB.out|apply below_alloc|apply pw_below_drewN|apply below_drew1|refine below_set ?_ GE147.out|refine below_set ?_ GE148.out|refine below_set ?_ GE149.out|refine below_set ?_ GE150.out|refine below_set ?_ GE160.out|refine below_set ?_ GE161.out|refine below_set ?_ GE173.out)|exact HB.out)⟩⟩
          ·
           rw [if_neg c103] at H;have c103b0:decide (t178 < 0)=false:=decide_eq_false c103;clear c103;have H':=mk0 H;clear H;try go_wp2
           replace BK147:=bdr BK147;replace BK148:=bdr BK148;replace BK149:=bdr BK149;replace BK150:=bdr BK150;replace BK160:=bdr BK160;replace BK161:=bdr BK161;replace BK173:=bdr BK173;replace HB:=hdr HB;refine start_ (n:=18) (S:=fun w'=>w'.cell? ⟨gb173,0,none⟩=some (.int .i64 x174000_2)∧w'.cell? ⟨gb173,1,none⟩=some (.int .i64 x174001_2)∧w'.cell? ⟨gb173,2,none⟩=some (.int .i64 x174002_2)∧w'.cell? ⟨gb173,3,none⟩=some (.int .i64 x174003_2)∧w'.cell? ⟨gb161,0,none⟩=some (.int .i64 x162000_1)∧w'.cell? ⟨gb161,1,none⟩=some (.int .i64 x162001_1)∧w'.cell? ⟨gb161,2,none⟩=some (.int .i64 x162002_1)∧w'.cell? ⟨gb161,3,none⟩=some (.int .i64 x162003_1)) (ds:=[]) #[false,false,false,false,false,false,false,false,false,false,false,false,false,false,false,false,false,false] (by kernel_rfl) rfl rfl ⟨(blk_cell BK173.out 0).trans rfl,(blk_cell BK173.out 1).trans rfl,(blk_cell BK173.out 2).trans rfl,(blk_cell BK173.out 3).trans rfl,(blk_cell BK161.out 0).trans rfl,(blk_cell BK161.out 1).trans rfl,(blk_cell BK161.out 2).trans rfl,(blk_cell BK161.out 3).trans rfl⟩ (fun hHeld=>?_);refine with_tabW norm_divide.tab17 norm_divide.bits17 (fun HT_ HW_=>?_);generalize wr.drew=w118 at BK147 BK148 BK149 BK150 BK160 BK161 BK173 HB hHeld ⊢;refine pure_ (i:=0) (N:=some 51) (v:=?_) (a':=?_) #[true,false,false,false,false,false,false,false,false,false,false,false,false,false,false,false,false,false] rfl rfl (any_of HT_.out (by kernel_rfl)) (fun _ _ _ h=>h) (Or.inl ⟨by rfl,?_⟩) ?_ ?_;rotate_left
           ·
            intro w';go_simp;with_reducible rfl
           rotate_left
           ·
            simp only [Act.put,List.setIfInBounds_toArray,List.set_cons_zero,List.set_cons_succ,i64_w,i32_w];rfl
           refine pure_ (i:=1) (N:=some 52) (v:=?_) (a':=?_) #[true,true,false,false,false,false,false,false,false,false,false,false,false,false,false,false,false,false] rfl rfl (any_of HT_.out (by kernel_rfl)) (fun _ _ _ h=>h) (Or.inl ⟨by rfl,?_⟩) ?_ ?_;rotate_left
           ·
            intro w';go_simp;with_reducible rfl
           rotate_left
           ·
            simp only [Act.put,List.setIfInBounds_toArray,List.set_cons_zero,List.set_cons_succ,i64_w,i32_w];rfl
           refine pure_ (i:=2) (N:=some 53) (v:=?_) (a':=?_) #[true,true,true,false,false,false,false,false,false,false,false,false,false,false,false,false,false,false] rfl rfl (any_of HT_.out (by kernel_rfl)) (fun _ _ _ h=>h) (Or.inl ⟨by rfl,?_⟩) ?_ ?_;rotate_left
           ·
            intro w';go_simp;with_reducible rfl
           rotate_left
           ·
            simp only [Act.put,List.setIfInBounds_toArray,List.set_cons_zero,List.set_cons_succ,i64_w,i32_w];rfl
           refine pure_ (i:=3) (N:=some 54) (v:=?_) (a':=?_) #[true,true,true,true,false,false,false,false,false,false,false,false,false,false,false,false,false,false] rfl rfl (any_of HT_.out (by kernel_rfl)) (fun _ _ _ h=>h) (Or.inl ⟨by rfl,?_⟩) ?_ ?_;rotate_left
           ·
            intro w';go_simp;with_reducible rfl
           rotate_left
           ·
            simp only [Act.put,List.setIfInBounds_toArray,List.set_cons_zero,List.set_cons_succ,i64_w,i32_w];rfl
           refine pure_ (i:=4) (N:=some 55) (v:=?_) (a':=?_) #[true,true,true,true,true,false,false,false,false,false,false,false,false,false,false,false,false,false] rfl rfl (any_of HT_.out (by kernel_rfl)) (fun _ _ _ h=>h) (Or.inl ⟨by rfl,?_⟩) ?_ ?_;rotate_left
           ·
            intro w';go_simp;with_reducible rfl
           rotate_left
           ·
            simp only [Act.put,List.setIfInBounds_toArray,List.set_cons_zero,List.set_cons_succ,i64_w,i32_w];rfl
           refine pure_ (i:=5) (N:=some 56) (v:=?_) (a':=?_) #[true,true,true,true,true,true,false,false,false,false,false,false,false,false,false,false,false,false] rfl rfl (any_of HT_.out (by kernel_rfl)) (fun _ _ _ h=>h) (Or.inl ⟨by rfl,?_⟩) ?_ ?_;rotate_left
           ·
            intro w';go_simp;with_reducible rfl
           rotate_left
           ·
            simp only [Act.put,List.setIfInBounds_toArray,List.set_cons_zero,List.set_cons_succ,i64_w,i32_w];rfl
           refine pure_ (i:=6) (N:=some 57) (v:=?_) (a':=?_) #[true,true,true,true,true,true,true,false,false,false,false,false,false,false,false,false,false,false] rfl rfl (any_of HT_.out (by kernel_rfl)) (fun _ _ _ h=>h) (Or.inl ⟨by rfl,?_⟩) ?_ ?_;rotate_left
           ·
            intro w';go_simp;with_reducible rfl
           rotate_left
           ·
            simp only [Act.put,List.setIfInBounds_toArray,List.set_cons_zero,List.set_cons_succ,i64_w,i32_w];rfl
           refine pure_ (i:=7) (N:=some 58) (v:=?_) (a':=?_) #[true,true,true,true,true,true,true,true,false,false,false,false,false,false,false,false,false,false] rfl rfl (any_of HT_.out (by kernel_rfl)) (fun _ _ _ h=>h) (Or.inl ⟨by rfl,?_⟩) ?_ ?_;rotate_left
           ·
            intro w';go_simp;with_reducible rfl
           rotate_left
           ·
            simp only [Act.put,List.setIfInBounds_toArray,List.set_cons_zero,List.set_cons_succ,i64_w,i32_w];rfl
           refine pure_ (i:=8) (N:=some 59) (v:=?_) (a':=?_) #[true,true,true,true,true,true,true,true,true,false,false,false,false,false,false,false,false,false] rfl rfl (any_of HT_.out (by kernel_rfl)) (fun _ _ _ h=>h) (Or.inl ⟨by rfl,?_⟩) ?_ ?_;rotate_left
           ·
            intro w';go_simp;with_reducible rfl
           rotate_left
           ·
            simp only [Act.put,List.setIfInBounds_toArray,List.set_cons_zero,List.set_cons_succ,i64_w,i32_w];rfl
           refine pure_ (i:=9) (N:=some 60) (v:=?_) (a':=?_) #[true,true,true,true,true,true,true,true,true,true,false,false,false,false,false,false,false,false] rfl rfl (any_of HT_.out (by kernel_rfl)) (fun _ _ _ h=>h) (Or.inl ⟨by rfl,?_⟩) ?_ ?_;rotate_left
           ·
            intro w';go_simp;with_reducible rfl
           rotate_left
           ·
            simp only [Act.put,List.setIfInBounds_toArray,List.set_cons_zero,List.set_cons_succ,i64_w,i32_w];rfl
           refine pure_ (i:=10) (N:=some 61) (v:=?_) (a':=?_) #[true,true,true,true,true,true,true,true,true,true,true,false,false,false,false,false,false,false] rfl rfl (any_of HT_.out (by kernel_rfl)) (fun _ _ _ h=>h) (Or.inl ⟨by rfl,?_⟩) ?_ ?_;rotate_left
           ·
            intro w';go_simp;with_reducible rfl
           rotate_left
           ·
            simp only [Act.put,List.setIfInBounds_toArray,List.set_cons_zero,List.set_cons_succ,i64_w,i32_w];rfl
           refine pure_ (i:=11) (N:=some 62) (v:=?_) (a':=?_) #[true,true,true,true,true,true,true,true,true,true,true,true,false,false,false,false,false,false] rfl rfl (any_of HT_.out (by kernel_rfl)) (fun _ _ _ h=>h) (Or.inl ⟨by rfl,?_⟩) ?_ ?_;rotate_left
           ·
            intro w';go_simp;with_reducible rfl
           rotate_left
           ·
            simp only [Act.put,List.setIfInBounds_toArray,List.set_cons_zero,List.set_cons_succ,i64_w,i32_w];rfl
           refine pure_ (i:=12) (N:=some 63) (v:=?_) (a':=?_) #[true,true,true,true,true,true,true,true,true,true,true,true,true,false,false,false,false,false] rfl rfl (any_of HT_.out (by kernel_rfl)) (fun _ _ _ h=>h) (Or.inl ⟨by rfl,?_⟩) ?_ ?_;rotate_left
           ·
            intro w';go_simp;with_reducible rfl
           rotate_left
           ·
            simp only [Act.put,List.setIfInBounds_toArray,List.set_cons_zero,List.set_cons_succ,i64_w,i32_w];rfl
           refine pure_ (i:=13) (N:=some 64) (v:=?_) (a':=?_) #[true,true,true,true,true,true,true,true,true,true,true,true,true,true,false,false,false,false] rfl rfl (any_of HT_.out (by kernel_rfl)) (fun _ _ _ h=>h) (Or.inl ⟨by rfl,?_⟩) ?_ ?_;rotate_left
           ·
            intro w';go_simp;with_reducible rfl
           rotate_left
           ·
            simp only [Act.put,List.setIfInBounds_toArray,List.set_cons_zero,List.set_cons_succ,i64_w,i32_w];rfl
           refine one_ (i:=14) (N:=some 65) #[true,true,true,true,true,true,true,true,true,true,true,true,true,true,true,false,false,false] rfl rfl (one_of HT_.out (by kernel_rfl)) (by decide) (fun K hK=>?_);refine goes_ Try.func55 (by kernel_rfl) rfl #[.slice (some ⟨gb173,0,none⟩) [x174000_2,x174001_2,x174002_2,x174003_2].length 4,.slice (some ⟨gb161,0,none⟩) [x162000_1,x162001_1,x162002_1,x162003_1].length 4] (by rfl) rfl rfl (by (try simp only [List.map_toArray,List.map_cons,List.map_nil]);first|done|(rw [show [x174000_2,x174001_2,x174002_2,x174003_2].length=4 from rfl,show [x162000_1,x162001_1,x162002_1,x162003_1].length=4 from rfl] <;> rfl)|rfl|(simp only [List.length_drop,List.length_take];rfl)) ?_;with_reducible refine (slices_Compare_int_int.calls k2 _ _ [x174000_2,x174001_2,x174002_2,x174003_2] _ _ [x162000_1,x162001_1,x162002_1,x162003_1] t178 _ ?side1 ?side2 ?side3 ?side4 A102.out).mono ?_
           (case side1=>exact Go.Proofs.MyWords.C_box (t:=67) (cs:=#[.int .i64 x174000_2,.int .i64 x174001_2,.int .i64 x174002_2,.int .i64 x174003_2]) BK173.out (by rfl) (Nat.le_of_ble_eq_true rfl));(case side2=>exact Nat.le_refl _);(case side3=>exact Go.Proofs.MyWords.C_box (t:=67) (cs:=#[.int .i64 x162000_1,.int .i64 x162001_1,.int .i64 x162002_1,.int .i64 x162003_1]) BK161.out (by rfl) (Nat.le_of_ble_eq_true rfl));(case side4=>exact Nat.le_refl _);rintro e w' ⟨rfl,⟨nd,rfl⟩⟩;refine ⟨_,rfl,?_⟩;refine hK.out _ _ ⟨(blk_cell BK173.out 0).trans rfl,(blk_cell BK173.out 1).trans rfl,(blk_cell BK173.out 2).trans rfl,(blk_cell BK173.out 3).trans rfl,(blk_cell BK161.out 0).trans rfl,(blk_cell BK161.out 1).trans rfl,(blk_cell BK161.out 2).trans rfl,(blk_cell BK161.out 3).trans rfl⟩ (fun hHeld=>?_);clear hK K;refine norm_ (a':=?_) ?_ ?_;rotate_left
           ·
            show Act.put _ (some 65) _=_;simp only [Act.put,List.setIfInBounds_toArray,List.set_cons_zero,List.set_cons_succ,i64_w,i32_w];rfl
           refine pure_ (i:=15) (N:=some 66) (v:=?_) (a':=?_) #[true,true,true,true,true,true,true,true,true,true,true,true,true,true,true,true,false,false] rfl rfl (any_of HT_.out (by kernel_rfl)) (fun _ _ _ h=>h) (Or.inl ⟨by rfl,?_⟩) ?_ ?_;rotate_left
           ·
            intro w';go_simp;with_reducible rfl
           rotate_left
           ·
            simp only [Act.put,List.setIfInBounds_toArray,List.set_cons_zero,List.set_cons_succ,i64_w,i32_w];rfl
           refine pure_ (i:=16) (N:=some 67) (v:=?_) (a':=?_) #[true,true,true,true,true,true,true,true,true,true,true,true,true,true,true,true,true,false] rfl rfl (any_of HT_.out (by kernel_rfl)) (fun _ _ _ h=>h) (Or.inl ⟨by rfl,?_⟩) ?_ ?_;rotate_left
           ·
            intro w';go_simp;with_reducible rfl
           rotate_left
           ·
            simp only [Act.put,List.setIfInBounds_toArray,List.set_cons_zero,List.set_cons_succ,i64_w,i32_w];rfl
           refine pure_ (i:=17) (N:=some 68) (v:=?_) (a':=?_) #[true,true,true,true,true,true,true,true,true,true,true,true,true,true,true,true,true,true] rfl rfl (any_of HT_.out (by kernel_rfl)) (fun _ _ _ h=>h) (Or.inl ⟨by rfl,?_⟩) ?_ ?_;rotate_left
           ·
            intro w';go_simp;with_reducible rfl
           rotate_left
           ·
            simp only [Act.put,List.setIfInBounds_toArray,List.set_cons_zero,List.set_cons_succ,i64_w,i32_w];rfl
           refine done_ (done_of HT_.out (by kernel_rfl)) ?_;try go_wp2
           go_roundg k2
           case measure=>have:=HK1.out;have:=HK2.out;omega
           case rel=>exact ⟨(x9_1),(wrap64 (x22_1 + 1)),(x162000_1),(x162001_1),(x162002_1),(x162003_1),(by first|rfl|(simp;done)|(simp [*];done)),(by first|rfl|(simp;done)|(simp [*];done)),H',⟨by have:=HK1.out;have:=HK2.out;omega⟩,⟨by exact BK147.out⟩,⟨by exact BK148.out⟩,⟨by exact BK149.out⟩,⟨by exact BK150.out⟩,⟨by exact BK160.out⟩,⟨by exact BK161.out⟩,⟨by repeat (first|(with_reducible first|exact HB.out|apply below_alloc|apply pw_below_drewN|apply below_drew1|refine below_set ?_ GE147.out|refine below_set ?_ GE148.out|refine below_set ?_ GE149.out|refine below_set ?_ GE150.out|refine below_set ?_ GE160.out|refine below_set ?_ GE161.out|refine below_set ?_ GE173.out)|exact HB.out)⟩⟩
         ·
          rw [if_neg c101] at H;have c101b0:(x12_2 == x9_1)=false:=beq_eq_false_iff_ne.mpr c101;have c101b1:(x12_2 != x9_1)=true:=bne_iff_ne.mpr c101;have H':=mk0 H;clear H;try go_wp2
          replace BK147:=bdr BK147;replace BK148:=bdr BK148;replace BK149:=bdr BK149;replace BK150:=bdr BK150;replace BK160:=bdr BK160;replace BK161:=bdr BK161;replace BK173:=bdr BK173;replace HB:=hdr HB;refine start_ (n:=18) (S:=fun w'=>True) (ds:=[]) #[false,false,false,false,false,false,false,false,false,false,false,false,false,false,false,false,false,false] (by kernel_rfl) rfl rfl trivial (fun hHeld=>?_);refine with_tabW norm_divide.tab17 norm_divide.bits17 (fun HT_ HW_=>?_);generalize wr.drew=w119 at BK147 BK148 BK149 BK150 BK160 BK161 BK173 HB hHeld ⊢;refine pure_ (i:=0) (N:=some 51) (v:=?_) (a':=?_) #[true,false,false,false,false,false,false,false,false,false,false,false,false,false,false,false,false,false] rfl rfl (any_of HT_.out (by kernel_rfl)) (fun _ _ _ h=>h) (Or.inl ⟨by rfl,?_⟩) ?_ ?_;rotate_left
          ·
           intro w';go_simp;with_reducible rfl
          rotate_left
          ·
           simp only [Act.put,List.setIfInBounds_toArray,List.set_cons_zero,List.set_cons_succ,i64_w,i32_w];rfl
          refine pure_ (i:=1) (N:=some 52) (v:=?_) (a':=?_) #[true,true,false,false,false,false,false,false,false,false,false,false,false,false,false,false,false,false] rfl rfl (any_of HT_.out (by kernel_rfl)) (fun _ _ _ h=>h) (Or.inl ⟨by rfl,?_⟩) ?_ ?_;rotate_left
          ·
           intro w';go_simp;with_reducible rfl
          rotate_left
          ·
           simp only [Act.put,List.setIfInBounds_toArray,List.set_cons_zero,List.set_cons_succ,i64_w,i32_w];rfl
          refine pure_ (i:=2) (N:=some 53) (v:=?_) (a':=?_) #[true,true,true,false,false,false,false,false,false,false,false,false,false,false,false,false,false,false] rfl rfl (any_of HT_.out (by kernel_rfl)) (fun _ _ _ h=>h) (Or.inl ⟨by rfl,?_⟩) ?_ ?_;rotate_left
          ·
           intro w';go_simp;with_reducible rfl
          rotate_left
          ·
           simp only [Act.put,List.setIfInBounds_toArray,List.set_cons_zero,List.set_cons_succ,i64_w,i32_w];rfl
          refine pure_ (i:=3) (N:=some 54) (v:=?_) (a':=?_) #[true,true,true,true,false,false,false,false,false,false,false,false,false,false,false,false,false,false] rfl rfl (any_of HT_.out (by kernel_rfl)) (fun _ _ _ h=>h) (Or.inl ⟨by rfl,?_⟩) ?_ ?_;rotate_left
          ·
           intro w';go_simp;with_reducible rfl
          rotate_left
          ·
           simp only [Act.put,List.setIfInBounds_toArray,List.set_cons_zero,List.set_cons_succ,i64_w,i32_w];rfl
          refine pure_ (i:=4) (N:=some 55) (v:=?_) (a':=?_) #[true,true,true,true,true,false,false,false,false,false,false,false,false,false,false,false,false,false] rfl rfl (any_of HT_.out (by kernel_rfl)) (fun _ _ _ h=>h) (Or.inl ⟨by rfl,?_⟩) ?_ ?_;rotate_left
          ·
           intro w';go_simp;with_reducible rfl
          rotate_left
          ·
           simp only [Act.put,List.setIfInBounds_toArray,List.set_cons_zero,List.set_cons_succ,i64_w,i32_w];rfl
          refine pure_ (i:=5) (N:=some 56) (v:=?_) (a':=?_) #[true,true,true,true,true,true,false,false,false,false,false,false,false,false,false,false,false,false] rfl rfl (any_of HT_.out (by kernel_rfl)) (fun _ _ _ h=>h) (Or.inl ⟨by rfl,?_⟩) ?_ ?_;rotate_left
          ·
           intro w';go_simp;with_reducible rfl
          rotate_left
          ·
           simp only [Act.put,List.setIfInBounds_toArray,List.set_cons_zero,List.set_cons_succ,i64_w,i32_w];rfl
          refine pure_ (i:=6) (N:=some 57) (v:=?_) (a':=?_) #[true,true,true,true,true,true,true,false,false,false,false,false,false,false,false,false,false,false] rfl rfl (any_of HT_.out (by kernel_rfl)) (fun _ _ _ h=>h) (Or.inl ⟨by rfl,?_⟩) ?_ ?_;rotate_left
          ·
           intro w';go_simp;with_reducible rfl
          rotate_left
          ·
           simp only [Act.put,List.setIfInBounds_toArray,List.set_cons_zero,List.set_cons_succ,i64_w,i32_w];rfl
          refine pure_ (i:=7) (N:=some 58) (v:=?_) (a':=?_) #[true,true,true,true,true,true,true,true,false,false,false,false,false,false,false,false,false,false] rfl rfl (any_of HT_.out (by kernel_rfl)) (fun _ _ _ h=>h) (Or.inl ⟨by rfl,?_⟩) ?_ ?_;rotate_left
          ·
           intro w';go_simp;with_reducible rfl
          rotate_left
          ·
           simp only [Act.put,List.setIfInBounds_toArray,List.set_cons_zero,List.set_cons_succ,i64_w,i32_w];rfl
          refine pure_ (i:=8) (N:=some 59) (v:=?_) (a':=?_) #[true,true,true,true,true,true,true,true,true,false,false,false,false,false,false,false,false,false] rfl rfl (any_of HT_.out (by kernel_rfl)) (fun _ _ _ h=>h) (Or.inl ⟨by rfl,?_⟩) ?_ ?_;rotate_left
          ·
           intro w';go_simp;with_reducible rfl
          rotate_left
          ·
           simp only [Act.put,List.setIfInBounds_toArray,List.set_cons_zero,List.set_cons_succ,i64_w,i32_w];rfl
          refine pure_ (i:=9) (N:=some 60) (v:=?_) (a':=?_) #[true,true,true,true,true,true,true,true,true,true,false,false,false,false,false,false,false,false] rfl rfl (any_of HT_.out (by kernel_rfl)) (fun _ _ _ h=>h) (Or.inl ⟨by rfl,?_⟩) ?_ ?_;rotate_left
          ·
           intro w';go_simp;with_reducible rfl
          rotate_left
          ·
           simp only [Act.put,List.setIfInBounds_toArray,List.set_cons_zero,List.set_cons_succ,i64_w,i32_w];rfl
          refine pure_ (i:=10) (N:=some 61) (v:=?_) (a':=?_) #[true,true,true,true,true,true,true,true,true,true,true,false,false,false,false,false,false,false] rfl rfl (any_of HT_.out (by kernel_rfl)) (fun _ _ _ h=>h) (Or.inl ⟨by rfl,?_⟩) ?_ ?_;rotate_left
          ·
           intro w';go_simp;with_reducible rfl
          rotate_left
          ·
           simp only [Act.put,List.setIfInBounds_toArray,List.set_cons_zero,List.set_cons_succ,i64_w,i32_w];rfl
          refine pure_ (i:=11) (N:=some 62) (v:=?_) (a':=?_) #[true,true,true,true,true,true,true,true,true,true,true,true,false,false,false,false,false,false] rfl rfl (any_of HT_.out (by kernel_rfl)) (fun _ _ _ h=>h) (Or.inl ⟨by rfl,?_⟩) ?_ ?_;rotate_left
          ·
           intro w';go_simp;with_reducible rfl
          rotate_left
          ·
           simp only [Act.put,List.setIfInBounds_toArray,List.set_cons_zero,List.set_cons_succ,i64_w,i32_w];rfl
          refine pure_ (i:=12) (N:=some 63) (v:=undef) (a':=?_) #[true,true,true,true,true,true,true,true,true,true,true,true,true,false,false,false,false,false] rfl rfl (any_of HT_.out (by kernel_rfl)) (fun _ _ _ h=>h) (Or.inr ⟨by rfl,rfl⟩) ?_ ?_;rotate_left
          ·
           simp only [Act.put,List.setIfInBounds_toArray,List.set_cons_zero,List.set_cons_succ,i64_w,i32_w];rfl
          refine pure_ (i:=13) (N:=some 64) (v:=undef) (a':=?_) #[true,true,true,true,true,true,true,true,true,true,true,true,true,true,false,false,false,false] rfl rfl (any_of HT_.out (by kernel_rfl)) (fun _ _ _ h=>h) (Or.inr ⟨by rfl,rfl⟩) ?_ ?_;rotate_left
          ·
           simp only [Act.put,List.setIfInBounds_toArray,List.set_cons_zero,List.set_cons_succ,i64_w,i32_w];rfl
          refine pure_ (i:=14) (N:=some 65) (v:=undef) (a':=?_) #[true,true,true,true,true,true,true,true,true,true,true,true,true,true,true,false,false,false] rfl rfl (any_of HT_.out (by kernel_rfl)) (fun _ _ _ h=>h) (Or.inr ⟨by rfl,rfl⟩) ?_ ?_;rotate_left
          ·
           simp only [Act.put,List.setIfInBounds_toArray,List.set_cons_zero,List.set_cons_succ,i64_w,i32_w];rfl
          refine pure_ (i:=15) (N:=some 66) (v:=undef) (a':=?_) #[true,true,true,true,true,true,true,true,true,true,true,true,true,true,true,true,false,false] rfl rfl (any_of HT_.out (by kernel_rfl)) (fun _ _ _ h=>h) (Or.inr ⟨by rfl,rfl⟩) ?_ ?_;rotate_left
          ·
           simp only [Act.put,List.setIfInBounds_toArray,List.set_cons_zero,List.set_cons_succ,i64_w,i32_w];rfl
          refine pure_ (i:=16) (N:=some 67) (v:=?_) (a':=?_) #[true,true,true,true,true,true,true,true,true,true,true,true,true,true,true,true,true,false] rfl rfl (any_of HT_.out (by kernel_rfl)) (fun _ _ _ h=>h) (Or.inl ⟨by rfl,?_⟩) ?_ ?_;rotate_left
          ·
           intro w';go_simp;with_reducible rfl
          rotate_left
          ·
           simp only [Act.put,List.setIfInBounds_toArray,List.set_cons_zero,List.set_cons_succ,i64_w,i32_w];rfl
          refine pure_ (i:=17) (N:=some 68) (v:=?_) (a':=?_) #[true,true,true,true,true,true,true,true,true,true,true,true,true,true,true,true,true,true] rfl rfl (any_of HT_.out (by kernel_rfl)) (fun _ _ _ h=>h) (Or.inl ⟨by rfl,?_⟩) ?_ ?_;rotate_left
          ·
           intro w';go_simp;with_reducible rfl
          rotate_left
          ·
           simp only [Act.put,List.setIfInBounds_toArray,List.set_cons_zero,List.set_cons_succ,i64_w,i32_w];rfl
          refine done_ (done_of HT_.out (by kernel_rfl)) ?_;try go_wp2
          go_roundg k2
          case measure=>have:=HK1.out;have:=HK2.out;omega
          case rel=>exact ⟨(x9_1),(wrap64 (x22_1 + 1)),(x162000_1),(x162001_1),(x162002_1),(x162003_1),(by first|rfl|(simp;done)|(simp [*];done)),(by first|rfl|(simp;done)|(simp [*];done)),H',⟨by have:=HK1.out;have:=HK2.out;omega⟩,⟨by exact BK147.out⟩,⟨by exact BK148.out⟩,⟨by exact BK149.out⟩,⟨by exact BK150.out⟩,⟨by exact BK160.out⟩,⟨by exact BK161.out⟩,⟨by repeat (first|(with_reducible first|exact HB.out|apply below_alloc|apply pw_below_drewN|apply below_drew1|refine below_set ?_ GE147.out|refine below_set ?_ GE148.out|refine below_set ?_ GE149.out|refine below_set ?_ GE150.out|refine below_set ?_ GE160.out|refine below_set ?_ GE161.out|refine below_set ?_ GE173.out)|exact HB.out)⟩⟩
   ·
    rw [if_neg c25] at H;have c25b0:decide (x22_1 < 2)=false:=decide_eq_false c25;clear c25;obtain ⟨y162,hy162⟩:∃ y_:List (S67),y_=(([(⟨x162000_1,x162001_1,x162002_1,x162003_1⟩:S67),(⟨a1_0,a1_1,a1_2,a1_3⟩:S67)]:List (S67))):=⟨_,rfl⟩
    replace H:((norm_product.f k1 y162).bind fun bt165=>((norm_quat_minus.f k1 a0_0 a0_1 a0_2 a0_3 bt165.1 bt165.2.1 bt165.2.2.1 bt165.2.2.2).bind fun bt169=>(some (x162000_1,x162001_1,x162002_1,x162003_1,bt169.1,bt169.2.1,bt169.2.2.1,bt169.2.2.2))))=some (r1,r2,r3,r4,r5,r6,r7,r8):=by first|(rw [hy162];with_reducible exact H)|(have H2_:=(Option.bind_some _ _).symm.trans H;rw [hy162];with_reducible exact H2_)|(have H2_:=(Option.bind_some _ _).symm.trans H;with_reducible exact H2_)|with_reducible exact H|(rw [hy162];exact H)|exact H
    have Ny162:=mk0 hy162;clear hy162;replace H:=Option.bind_eq_some_iff.mp H;obtain ⟨⟨t165,t166,t167,t168⟩,A1200,H⟩:=H;(try dsimp only at H);have A120:=mk0 A1200;clear A1200;replace H:=Option.bind_eq_some_iff.mp H;obtain ⟨⟨t169,t170,t171,t172⟩,A1210,H⟩:=H;(try dsimp only at H);have A121:=mk0 A1210;clear A1210;simp only [Option.some.injEq,Prod.mk.injEq] at H;obtain ⟨rfl,rfl,rfl,rfl,rfl,rfl,rfl,rfl⟩:=H;try go_wp2
    replace BK147:=bdr BK147;replace BK148:=bdr BK148;replace BK149:=bdr BK149;replace BK150:=bdr BK150;replace BK160:=bdr BK160;replace BK161:=bdr BK161;replace HB:=hdr HB;refine start_ (n:=9) (S:=fun w'=>w'.cell? ⟨gb161,0,none⟩=some (.int .i64 x162000_1)∧w'.cell? ⟨gb161,1,none⟩=some (.int .i64 x162001_1)∧w'.cell? ⟨gb161,2,none⟩=some (.int .i64 x162002_1)∧w'.cell? ⟨gb161,3,none⟩=some (.int .i64 x162003_1)∧w'.cell? ⟨gb147,0,none⟩=some (.int .i64 a0_0)∧w'.cell? ⟨gb147,1,none⟩=some (.int .i64 a0_1)∧w'.cell? ⟨gb147,2,none⟩=some (.int .i64 a0_2)∧w'.cell? ⟨gb147,3,none⟩=some (.int .i64 a0_3)∧w'.cell? ⟨gb148,0,none⟩=some (.int .i64 a1_0)∧w'.cell? ⟨gb148,1,none⟩=some (.int .i64 a1_1)∧w'.cell? ⟨gb148,2,none⟩=some (.int .i64 a1_2)∧w'.cell? ⟨gb148,3,none⟩=some (.int .i64 a1_3)) (ds:=[]) #[false,false,false,false,false,false,false,false,false] (by kernel_rfl) rfl rfl ⟨(blk_cell BK161.out 0).trans rfl,(blk_cell BK161.out 1).trans rfl,(blk_cell BK161.out 2).trans rfl,(blk_cell BK161.out 3).trans rfl,(blk_cell BK147.out 0).trans rfl,(blk_cell BK147.out 1).trans rfl,(blk_cell BK147.out 2).trans rfl,(blk_cell BK147.out 3).trans rfl,(blk_cell BK148.out 0).trans rfl,(blk_cell BK148.out 1).trans rfl,(blk_cell BK148.out 2).trans rfl,(blk_cell BK148.out 3).trans rfl⟩ (fun hHeld=>?_);refine with_tabW norm_divide.tab20 norm_divide.bits20 (fun HT_ HW_=>?_);generalize wr.drew=w122 at BK147 BK148 BK149 BK150 BK160 BK161 HB hHeld ⊢;refine take_ (i:=0) (N:=some 72) (v:=?_) (a':=?_) #[true,false,false,false,false,false,false,false,false] rfl rfl (take_ofW HT_.out HW_.out (by kernel_rfl)) (fun _ _ _ h=>h) (Or.inl ⟨by rfl,?_⟩) hHeld ?_ ?_;rotate_left
    ·
     rintro w' ⟨s0,s1,s2,s3,s4,s5,s6,s7,s8,s9,s10,s11⟩;go_simp;with_reducible rfl
    rotate_left
    ·
     simp only [Act.put,List.setIfInBounds_toArray,List.set_cons_zero,List.set_cons_succ,i64_w,i32_w];rfl
    refine take_ (i:=1) (N:=some 73) (v:=?_) (a':=?_) #[true,true,false,false,false,false,false,false,false] rfl rfl (take_ofW HT_.out HW_.out (by kernel_rfl)) (fun _ _ _ h=>h) (Or.inl ⟨by rfl,?_⟩) hHeld ?_ ?_;rotate_left
    ·
     rintro w' ⟨s0,s1,s2,s3,s4,s5,s6,s7,s8,s9,s10,s11⟩;go_simp;with_reducible rfl
    rotate_left
    ·
     simp only [Act.put,List.setIfInBounds_toArray,List.set_cons_zero,List.set_cons_succ,i64_w,i32_w];rfl
    refine take_ (i:=2) (N:=some 74) (v:=?_) (a':=?_) #[true,true,true,false,false,false,false,false,false] rfl rfl (take_ofW HT_.out HW_.out (by kernel_rfl)) (fun _ _ _ h=>h) (Or.inl ⟨by rfl,?_⟩) hHeld ?_ ?_;rotate_left
    ·
     rintro w' ⟨s0,s1,s2,s3,s4,s5,s6,s7,s8,s9,s10,s11⟩;go_simp;with_reducible rfl
    rotate_left
    ·
     simp only [Act.put,List.setIfInBounds_toArray,List.set_cons_zero,List.set_cons_succ,i64_w,i32_w];rfl
    refine take_ (i:=3) (N:=some 75) (v:=?_) (a':=?_) #[true,true,true,true,false,false,false,false,false] rfl rfl (take_ofW HT_.out HW_.out (by kernel_rfl)) (fun _ _ _ h=>h) (Or.inl ⟨by rfl,?_⟩) hHeld ?_ ?_;rotate_left
    ·
     rintro w' ⟨s0,s1,s2,s3,s4,s5,s6,s7,s8,s9,s10,s11⟩;go_simp;with_reducible rfl
    rotate_left
    ·
     simp only [Act.put,List.setIfInBounds_toArray,List.set_cons_zero,List.set_cons_succ,i64_w,i32_w];rfl
    refine one_ (i:=4) (N:=some 76) #[true,true,true,true,true,false,false,false,false] rfl rfl (one_of HT_.out (by kernel_rfl)) (by decide) (fun K hK=>?_);refine Kd.R_lit_step k67 _ 67 ?hg (N:=76) ?hd (xs:=([(⟨x162000_1,x162001_1,x162002_1,x162003_1⟩:S67),(⟨a1_0,a1_1,a1_2,a1_3⟩:S67)]:List (S67))) (inner:=[.int .i64 x162000_1,.int .i64 x162001_1,.int .i64 x162002_1,.int .i64 x162003_1,.int .i64 a1_0,.int .i64 a1_1,.int .i64 a1_2,.int .i64 a1_3]) (ok:=fun _=>True) (okp:=fun _=>True) ?hr ?hp (fun _ hk=>hk) trivial (Below.refl _ _) (Nat.le_refl _) (by simp) ?_;(case hd=>rfl);(case hg=>rfl);(case hr=>first|(go_simp;done)|(go_simp;rfl));(case hp=>exact (Reps.c4 (show Kd.M k67 _ _ _ (⟨x162000_1,x162001_1,x162002_1,x162003_1⟩:S67) [.int .i64 x162000_1,.int .i64 x162001_1,.int .i64 x162002_1,.int .i64 x162003_1] from (k67_mkM _ _ _ (⟨x162000_1,x162001_1,x162002_1,x162003_1⟩:S67) )) (Reps.c4 (show Kd.M k67 _ _ _ (⟨a1_0,a1_1,a1_2,a1_3⟩:S67) [.int .i64 a1_0,.int .i64 a1_1,.int .i64 a1_2,.int .i64 a1_3] from (k67_mkM _ _ _ (⟨a1_0,a1_1,a1_2,a1_3⟩:S67) )) (Reps.none _ _))));intro v163 w123 ho124 hb hg_ hnew_;clear hg_ hnew_;(first|rw [← Ny162.out] at ho124|(simp only [Int.reduceToNat] at ho124;rw [← Ny162.out] at ho124));have HO164:=mk0 (Kd.R_lower (Kd.R_newB (Kd.R_newB (Kd.R_newB (Kd.R_newB (Kd.R_newB (Kd.R_newB ho124 (g:=gb147) (o:=.cells #[.int .i64 a0_0,.int .i64 a0_1,.int .i64 a0_2,.int .i64 a0_3] 67 (0,0)) BK147.out) (g:=gb148) (o:=.cells #[.int .i64 a1_0,.int .i64 a1_1,.int .i64 a1_2,.int .i64 a1_3] 67 (0,0)) BK148.out) (g:=gb149) (o:=.cells #[.int .i64 0,.int .i64 0,.int .i64 0,.int .i64 0] 67 (0,0)) BK149.out) (g:=gb150) (o:=.cells #[.int .i64 0,.int .i64 0,.int .i64 0,.int .i64 0] 67 (0,0)) BK150.out) (g:=gb160) (o:=.cells #[.int .i64 t156,.int .i64 t157,.int .i64 t158,.int .i64 t159] 67 (0,0)) BK160.out) (g:=gb161) (o:=.cells #[.int .i64 x162000_1,.int .i64 x162001_1,.int .i64 x162002_1,.int .i64 x162003_1] 67 (0,0)) BK161.out) (below_size HB.out));replace BK147:=bkb BK147 hb;replace BK148:=bkb BK148 hb;replace BK149:=bkb BK149 hb;replace BK150:=bkb BK150 hb;replace BK160:=bkb BK160 hb;replace BK161:=bkb BK161 hb;replace HB:=bst HB hb;clear hb ho124;obtain ⟨Ao125,co125,eo125⟩:=Kd.R_slice HO164.out;(first|subst eo125|(injection eo125 with f1_ f2_ f3_;have f4_:=f1_.symm;have f5_:=f3_.symm;clear f1_ f2_ f3_;subst f4_;subst f5_));refine hK.out _ _ ⟨(blk_cell BK161.out 0).trans rfl,(blk_cell BK161.out 1).trans rfl,(blk_cell BK161.out 2).trans rfl,(blk_cell BK161.out 3).trans rfl,(blk_cell BK147.out 0).trans rfl,(blk_cell BK147.out 1).trans rfl,(blk_cell BK147.out 2).trans rfl,(blk_cell BK147.out 3).trans rfl,(blk_cell BK148.out 0).trans rfl,(blk_cell BK148.out 1).trans rfl,(blk_cell BK148.out 2).trans rfl,(blk_cell BK148.out 3).trans rfl⟩ (fun hHeld=>?_);clear hK K;refine norm_ (a':=?_) ?_ ?_;rotate_left
    ·
     show Act.put _ (some 76) _=_;simp only [Act.put,List.setIfInBounds_toArray,List.set_cons_zero,List.set_cons_succ,i64_w,i32_w];rfl
    refine one_ (i:=5) (N:=some 77) #[true,true,true,true,true,true,false,false,false] rfl rfl (one_of HT_.out (by kernel_rfl)) (by decide) (fun K hK=>?_);refine goes_ Try.func54 (by kernel_rfl) rfl #[.slice Ao125 y162.length co125] (by rfl) rfl rfl (by (try simp only [List.map_toArray,List.map_cons,List.map_nil]);first|done|rfl|(simp only [List.length_drop,List.length_take];rfl)) ?_;with_reducible refine (norm_product.calls k1 _ _ y162 t165 t166 t167 t168 _ ?side1 ?side2 A120.out).mono ?_
    (case side1=>repeat (first|exact (Kd.R_reads' HO164.out).2.2|(with_reducible refine Kd.C_alloc ?_ _)|(with_reducible refine Kd.C_drewN ?_ _)|(with_reducible refine Kd.C_drew ?_)));(case side2=>exact (Kd.R_reads' HO164.out).2.1);rintro e w126 ⟨rfl,hb⟩;refine ⟨_,rfl,?_⟩;replace HO164:=rbl HO164 hb;replace BK147:=bkb BK147 hb;replace BK148:=bkb BK148 hb;replace BK149:=bkb BK149 hb;replace BK150:=bkb BK150 hb;replace BK160:=bkb BK160 hb;replace BK161:=bkb BK161 hb;replace HB:=bst HB hb;(try clear hb);(try clear hk);refine hK.out _ _ ⟨(blk_cell BK161.out 0).trans rfl,(blk_cell BK161.out 1).trans rfl,(blk_cell BK161.out 2).trans rfl,(blk_cell BK161.out 3).trans rfl,(blk_cell BK147.out 0).trans rfl,(blk_cell BK147.out 1).trans rfl,(blk_cell BK147.out 2).trans rfl,(blk_cell BK147.out 3).trans rfl,(blk_cell BK148.out 0).trans rfl,(blk_cell BK148.out 1).trans rfl,(blk_cell BK148.out 2).trans rfl,(blk_cell BK148.out 3).trans rfl⟩ (fun hHeld=>?_);clear hK K;refine norm_ (a':=?_) ?_ ?_;rotate_left
    ·
     show Act.put _ (some 77) _=_;simp only [Act.put,List.setIfInBounds_toArray,List.set_cons_zero,List.set_cons_succ,i64_w,i32_w];rfl
    refine one_ (i:=6) (N:=some 78) #[true,true,true,true,true,true,true,false,false] rfl rfl (one_of HT_.out (by kernel_rfl)) (by decide) (fun K hK=>?_);refine goes_ Try.func73 (by kernel_rfl) rfl #[.agg #[.int .i64 a0_0,.int .i64 a0_1,.int .i64 a0_2,.int .i64 a0_3],.agg #[.int .i64 t165,.int .i64 t166,.int .i64 t167,.int .i64 t168]] (by rfl) rfl rfl (by (try simp only [List.map_toArray,List.map_cons,List.map_nil]);first|done|rfl|(simp only [List.length_drop,List.length_take];rfl)) ?_;with_reducible refine (norm_quat_minus.calls k1 a0_0 a0_1 a0_2 a0_3 t165 t166 t167 t168 t169 t170 t171 t172 _ A121.out).mono ?_
    rintro e w127 ⟨rfl,hb⟩;refine ⟨_,rfl,?_⟩;replace HO164:=rbl HO164 hb;replace BK147:=bkb BK147 hb;replace BK148:=bkb BK148 hb;replace BK149:=bkb BK149 hb;replace BK150:=bkb BK150 hb;replace BK160:=bkb BK160 hb;replace BK161:=bkb BK161 hb;replace HB:=bst HB hb;(try clear hb);refine hK.out _ _ ⟨(blk_cell BK161.out 0).trans rfl,(blk_cell BK161.out 1).trans rfl,(blk_cell BK161.out 2).trans rfl,(blk_cell BK161.out 3).trans rfl,(blk_cell BK147.out 0).trans rfl,(blk_cell BK147.out 1).trans rfl,(blk_cell BK147.out 2).trans rfl,(blk_cell BK147.out 3).trans rfl,(blk_cell BK148.out 0).trans rfl,(blk_cell BK148.out 1).trans rfl,(blk_cell BK148.out 2).trans rfl,(blk_cell BK148.out 3).trans rfl⟩ (fun hHeld=>?_);clear hK K;refine norm_ (a':=?_) ?_ ?_;rotate_left
    ·
     show Act.put _ (some 78) _=_;simp only [Act.put,List.setIfInBounds_toArray,List.set_cons_zero,List.set_cons_succ,i64_w,i32_w];rfl
    refine one_ (i:=7) (N:=none) #[true,true,true,true,true,true,true,true,false] rfl rfl (one_of HT_.out (by kernel_rfl)) (by decide) (fun K hK=>?_);have hs128:w127.cell? ⟨gb149,0,none⟩=some (.int .i64 0):=(blk_cell BK149.out 0).trans rfl;have hfs128:=blk_frozen BK149.out 0;have hns128_0:=NB147_149.out;have hns128_1:=NB148_149.out;have hns128_3:=NB150_149.out;have hns128_4:=NB160_149.out;have hns128_5:=NB161_149.out;have hms128_0:=NB149_147.out;have hms128_1:=NB149_148.out;have hms128_3:=NB149_150.out;have hms128_4:=NB149_160.out;have hms128_5:=NB149_161.out;have hs129:w127.cell? ⟨gb149,1,none⟩=some (.int .i64 0):=(blk_cell BK149.out 1).trans rfl;have hfs129:=blk_frozen BK149.out 1;have hns129_0:=NB147_149.out;have hns129_1:=NB148_149.out;have hns129_3:=NB150_149.out;have hns129_4:=NB160_149.out;have hns129_5:=NB161_149.out;have hms129_0:=NB149_147.out;have hms129_1:=NB149_148.out;have hms129_3:=NB149_150.out;have hms129_4:=NB149_160.out;have hms129_5:=NB149_161.out;have hs130:w127.cell? ⟨gb149,2,none⟩=some (.int .i64 0):=(blk_cell BK149.out 2).trans rfl;have hfs130:=blk_frozen BK149.out 2;have hns130_0:=NB147_149.out;have hns130_1:=NB148_149.out;have hns130_3:=NB150_149.out;have hns130_4:=NB160_149.out;have hns130_5:=NB161_149.out;have hms130_0:=NB149_147.out;have hms130_1:=NB149_148.out;have hms130_3:=NB149_150.out;have hms130_4:=NB149_160.out;have hms130_5:=NB149_161.out;have hs131:w127.cell? ⟨gb149,3,none⟩=some (.int .i64 0):=(blk_cell BK149.out 3).trans rfl;have hfs131:=blk_frozen BK149.out 3;have hns131_0:=NB147_149.out;have hns131_1:=NB148_149.out;have hns131_3:=NB150_149.out;have hns131_4:=NB160_149.out;have hns131_5:=NB161_149.out;have hms131_0:=NB149_147.out;have hms131_1:=NB149_148.out;have hms131_3:=NB149_150.out;have hms131_4:=NB149_160.out;have hms131_5:=NB149_161.out;refine skip_ (w1:=?_) (by rfl) rfl ?_ ?_;rotate_left
    ·
     go_simp;rfl
    refine hK.out _ _ ⟨((cell_far (p:=⟨gb149,_,none⟩) NB161_149.out _).trans (((cell_far (p:=⟨gb149,_,none⟩) NB161_149.out _).trans (((cell_far (p:=⟨gb149,_,none⟩) NB161_149.out _).trans (((cell_far (p:=⟨gb149,_,none⟩) NB161_149.out _).trans (hHeld.1)))))))),((cell_far (p:=⟨gb149,_,none⟩) NB161_149.out _).trans (((cell_far (p:=⟨gb149,_,none⟩) NB161_149.out _).trans (((cell_far (p:=⟨gb149,_,none⟩) NB161_149.out _).trans (((cell_far (p:=⟨gb149,_,none⟩) NB161_149.out _).trans (hHeld.2.1)))))))),((cell_far (p:=⟨gb149,_,none⟩) NB161_149.out _).trans (((cell_far (p:=⟨gb149,_,none⟩) NB161_149.out _).trans (((cell_far (p:=⟨gb149,_,none⟩) NB161_149.out _).trans (((cell_far (p:=⟨gb149,_,none⟩) NB161_149.out _).trans (hHeld.2.2.1)))))))),((cell_far (p:=⟨gb149,_,none⟩) NB161_149.out _).trans (((cell_far (p:=⟨gb149,_,none⟩) NB161_149.out _).trans (((cell_far (p:=⟨gb149,_,none⟩) NB161_149.out _).trans (((cell_far (p:=⟨gb149,_,none⟩) NB161_149.out _).trans (hHeld.2.2.2.1)))))))),((cell_far (p:=⟨gb149,_,none⟩) NB147_149.out _).trans (((cell_far (p:=⟨gb149,_,none⟩) NB147_149.out _).trans (((cell_far (p:=⟨gb149,_,none⟩) NB147_149.out _).trans (((cell_far (p:=⟨gb149,_,none⟩) NB147_149.out _).trans (hHeld.2.2.2.2.1)))))))),((cell_far (p:=⟨gb149,_,none⟩) NB147_149.out _).trans (((cell_far (p:=⟨gb149,_,none⟩) NB147_149.out _).trans (((cell_far (p:=⟨gb149,_,none⟩) NB147_149.out _).trans (((cell_far (p:=⟨gb149,_,none⟩) NB147_149.out _).trans (hHeld.2.2.2.2.2.1)))))))),((cell_far (p:=⟨gb149,_,none⟩) NB147_149.out _).trans (((cell_far (p:=⟨gb149,_,none⟩) NB147_149.out _).trans (((cell_far (p:=⟨gb149,_,none⟩) NB147_149.out _).trans (((cell_far (p:=⟨gb149,_,none⟩) NB147_149.out _).trans (hHeld.2.2.2.2.2.2.1)))))))),((cell_far (p:=⟨gb149,_,none⟩) NB147_149.out _).trans (((cell_far (p:=⟨gb149,_,none⟩) NB147_149.out _).trans (((cell_far (p:=⟨gb149,_,none⟩) NB147_149.out _).trans (((cell_far (p:=⟨gb149,_,none⟩) NB147_149.out _).trans (hHeld.2.2.2.2.2.2.2.1)))))))),((cell_far (p:=⟨gb149,_,none⟩) NB148_149.out _).trans (((cell_far (p:=⟨gb149,_,none⟩) NB148_149.out _).trans (((cell_far (p:=⟨gb149,_,none⟩) NB148_149.out _).trans (((cell_far (p:=⟨gb149,_,none⟩) NB148_149.out _).trans (hHeld.2.2.2.2.2.2.2.2.1)))))))),((cell_far (p:=⟨gb149,_,none⟩) NB148_149.out _).trans (((cell_far (p:=⟨gb149,_,none⟩) NB148_149.out _).trans (((cell_far (p:=⟨gb149,_,none⟩) NB148_149.out _).trans (((cell_far (p:=⟨gb149,_,none⟩) NB148_149.out _).trans (hHeld.2.2.2.2.2.2.2.2.2.1)))))))),((cell_far (p:=⟨gb149,_,none⟩) NB148_149.out _).trans (((cell_far (p:=⟨gb149,_,none⟩) NB148_149.out _).trans (((cell_far (p:=⟨gb149,_,none⟩) NB148_149.out _).trans (((cell_far (p:=⟨gb149,_,none⟩) NB148_149.out _).trans (hHeld.2.2.2.2.2.2.2.2.2.2.1)))))))),((cell_far (p:=⟨gb149,_,none⟩) NB148_149.out _).trans (((cell_far (p:=⟨gb149,_,none⟩) NB148_149.out _).trans (((cell_far (p:=⟨gb149,_,none⟩) NB148_149.out _).trans (((cell_far (p:=⟨gb149,_,none⟩) NB148_149.out _).trans (hHeld.2.2.2.2.2.2.2.2.2.2.2))))))))⟩ (fun hHeld=>?_);clear hK K;refine one_ (i:=8) (N:=none) #[true,true,true,true,true,true,true,true,true] rfl rfl (one_of HT_.out (by kernel_rfl)) (by decide) (fun K hK=>?_);have hs132:w127.cell? ⟨gb150,0,none⟩=some (.int .i64 0):=(blk_cell BK150.out 0).trans rfl;have hfs132:=blk_frozen BK150.out 0;have hns132_0:=NB147_150.out;have hns132_1:=NB148_150.out;have hns132_2:=NB149_150.out;have hns132_4:=NB160_150.out;have hns132_5:=NB161_150.out;have hms132_0:=NB150_147.out;have hms132_1:=NB150_148.out;have hms132_2:=NB150_149.out;have hms132_4:=NB150_160.out;have hms132_5:=NB150_161.out;have hs133:w127.cell? ⟨gb150,1,none⟩=some (.int .i64 0):=(blk_cell BK150.out 1).trans rfl;have hfs133:=blk_frozen BK150.out 1;have hns133_0:=NB147_150.out
    have hns133_1:=NB148_150.out;have hns133_2:=NB149_150.out;have hns133_4:=NB160_150.out;have hns133_5:=NB161_150.out;have hms133_0:=NB150_147.out;have hms133_1:=NB150_148.out;have hms133_2:=NB150_149.out;have hms133_4:=NB150_160.out;have hms133_5:=NB150_161.out;have hs134:w127.cell? ⟨gb150,2,none⟩=some (.int .i64 0):=(blk_cell BK150.out 2).trans rfl;have hfs134:=blk_frozen BK150.out 2;have hns134_0:=NB147_150.out;have hns134_1:=NB148_150.out;have hns134_2:=NB149_150.out;have hns134_4:=NB160_150.out;have hns134_5:=NB161_150.out;have hms134_0:=NB150_147.out;have hms134_1:=NB150_148.out;have hms134_2:=NB150_149.out;have hms134_4:=NB150_160.out;have hms134_5:=NB150_161.out;have hs135:w127.cell? ⟨gb150,3,none⟩=some (.int .i64 0):=(blk_cell BK150.out 3).trans rfl;have hfs135:=blk_frozen BK150.out 3;have hns135_0:=NB147_150.out;have hns135_1:=NB148_150.out;have hns135_2:=NB149_150.out;have hns135_4:=NB160_150.out;have hns135_5:=NB161_150.out;have hms135_0:=NB150_147.out;have hms135_1:=NB150_148.out;have hms135_2:=NB150_149.out;have hms135_4:=NB150_160.out;have hms135_5:=NB150_161.out;refine skip_ (w1:=?_) (by rfl) rfl ?_ ?_;rotate_left
    ·
     go_simp;rfl
    refine hK.out _ _ ⟨((cell_far (p:=⟨gb150,_,none⟩) NB161_150.out _).trans (((cell_far (p:=⟨gb150,_,none⟩) NB161_150.out _).trans (((cell_far (p:=⟨gb150,_,none⟩) NB161_150.out _).trans (((cell_far (p:=⟨gb150,_,none⟩) NB161_150.out _).trans (hHeld.1)))))))),((cell_far (p:=⟨gb150,_,none⟩) NB161_150.out _).trans (((cell_far (p:=⟨gb150,_,none⟩) NB161_150.out _).trans (((cell_far (p:=⟨gb150,_,none⟩) NB161_150.out _).trans (((cell_far (p:=⟨gb150,_,none⟩) NB161_150.out _).trans (hHeld.2.1)))))))),((cell_far (p:=⟨gb150,_,none⟩) NB161_150.out _).trans (((cell_far (p:=⟨gb150,_,none⟩) NB161_150.out _).trans (((cell_far (p:=⟨gb150,_,none⟩) NB161_150.out _).trans (((cell_far (p:=⟨gb150,_,none⟩) NB161_150.out _).trans (hHeld.2.2.1)))))))),((cell_far (p:=⟨gb150,_,none⟩) NB161_150.out _).trans (((cell_far (p:=⟨gb150,_,none⟩) NB161_150.out _).trans (((cell_far (p:=⟨gb150,_,none⟩) NB161_150.out _).trans (((cell_far (p:=⟨gb150,_,none⟩) NB161_150.out _).trans (hHeld.2.2.2.1)))))))),((cell_far (p:=⟨gb150,_,none⟩) NB147_150.out _).trans (((cell_far (p:=⟨gb150,_,none⟩) NB147_150.out _).trans (((cell_far (p:=⟨gb150,_,none⟩) NB147_150.out _).trans (((cell_far (p:=⟨gb150,_,none⟩) NB147_150.out _).trans (hHeld.2.2.2.2.1)))))))),((cell_far (p:=⟨gb150,_,none⟩) NB147_150.out _).trans (((cell_far (p:=⟨gb150,_,none⟩) NB147_150.out _).trans (((cell_far (p:=⟨gb150,_,none⟩) NB147_150.out _).trans (((cell_far (p:=⟨gb150,_,none⟩) NB147_150.out _).trans (hHeld.2.2.2.2.2.1)))))))),((cell_far (p:=⟨gb150,_,none⟩) NB147_150.out _).trans (((cell_far (p:=⟨gb150,_,none⟩) NB147_150.out _).trans (((cell_far (p:=⟨gb150,_,none⟩) NB147_150.out _).trans (((cell_far (p:=⟨gb150,_,none⟩) NB147_150.out _).trans (hHeld.2.2.2.2.2.2.1)))))))),((cell_far (p:=⟨gb150,_,none⟩) NB147_150.out _).trans (((cell_far (p:=⟨gb150,_,none⟩) NB147_150.out _).trans (((cell_far (p:=⟨gb150,_,none⟩) NB147_150.out _).trans (((cell_far (p:=⟨gb150,_,none⟩) NB147_150.out _).trans (hHeld.2.2.2.2.2.2.2.1)))))))),((cell_far (p:=⟨gb150,_,none⟩) NB148_150.out _).trans (((cell_far (p:=⟨gb150,_,none⟩) NB148_150.out _).trans (((cell_far (p:=⟨gb150,_,none⟩) NB148_150.out _).trans (((cell_far (p:=⟨gb150,_,none⟩) NB148_150.out _).trans (hHeld.2.2.2.2.2.2.2.2.1)))))))),((cell_far (p:=⟨gb150,_,none⟩) NB148_150.out _).trans (((cell_far (p:=⟨gb150,_,none⟩) NB148_150.out _).trans (((cell_far (p:=⟨gb150,_,none⟩) NB148_150.out _).trans (((cell_far (p:=⟨gb150,_,none⟩) NB148_150.out _).trans (hHeld.2.2.2.2.2.2.2.2.2.1)))))))),((cell_far (p:=⟨gb150,_,none⟩) NB148_150.out _).trans (((cell_far (p:=⟨gb150,_,none⟩) NB148_150.out _).trans (((cell_far (p:=⟨gb150,_,none⟩) NB148_150.out _).trans (((cell_far (p:=⟨gb150,_,none⟩) NB148_150.out _).trans (hHeld.2.2.2.2.2.2.2.2.2.2.1)))))))),((cell_far (p:=⟨gb150,_,none⟩) NB148_150.out _).trans (((cell_far (p:=⟨gb150,_,none⟩) NB148_150.out _).trans (((cell_far (p:=⟨gb150,_,none⟩) NB148_150.out _).trans (((cell_far (p:=⟨gb150,_,none⟩) NB148_150.out _).trans (hHeld.2.2.2.2.2.2.2.2.2.2.2))))))))⟩ (fun hHeld=>?_);clear hK K;refine done_ (done_of HT_.out (by kernel_rfl)) ?_;try go_wp2
    refine bodyPost_ret (results_cc rfl _ _ gb149 gb150 67 67 #[.int .i64 x162000_1,.int .i64 x162001_1,.int .i64 x162002_1,.int .i64 x162003_1] #[.int .i64 t169,.int .i64 t170,.int .i64 t171,.int .i64 t172] (0,0) (0,0) _ _ rfl (by (iterate 4 refine blk_far ?_ NB149_150.out _);refine blk_put (cs:=#[.int .i64 x162000_1,.int .i64 x162001_1,.int .i64 x162002_1,.int .i64 0]) ?_ 3 _ rfl;refine blk_put (cs:=#[.int .i64 x162000_1,.int .i64 x162001_1,.int .i64 0,.int .i64 0]) ?_ 2 _ rfl;refine blk_put (cs:=#[.int .i64 x162000_1,.int .i64 0,.int .i64 0,.int .i64 0]) ?_ 1 _ rfl;refine blk_put (cs:=#[.int .i64 0,.int .i64 0,.int .i64 0,.int .i64 0]) ?_ 0 _ rfl;exact BK149.out) Try.underlying67 rfl (by kernel_rfl) rfl (by refine blk_put (cs:=#[.int .i64 t169,.int .i64 t170,.int .i64 t171,.int .i64 0]) ?_ 3 _ rfl;refine blk_put (cs:=#[.int .i64 t169,.int .i64 t170,.int .i64 0,.int .i64 0]) ?_ 2 _ rfl;refine blk_put (cs:=#[.int .i64 t169,.int .i64 0,.int .i64 0,.int .i64 0]) ?_ 1 _ rfl;refine blk_put (cs:=#[.int .i64 0,.int .i64 0,.int .i64 0,.int .i64 0]) ?_ 0 _ rfl;(iterate 4 refine blk_far ?_ NB150_149.out _);exact BK150.out) Try.underlying67 rfl (by kernel_rfl)) rfl ?_;exact ⟨by first|rfl|(simp [errW_none,errW_some] <;> rfl)|(simp [*,errW_none,errW_some] <;> rfl),by repeat (first|(with_reducible first|exact HB.out|apply below_alloc|apply pw_below_drewN|apply below_drew1|refine below_set ?_ GE147.out|refine below_set ?_ GE148.out|refine below_set ?_ GE149.out|refine below_set ?_ GE150.out|refine below_set ?_ GE160.out|refine below_set ?_ GE161.out)|exact HB.out)⟩
/-! ### norm_quat_api: function 50 -/
def norm_quat_api.f (a0_0:Int) (a0_1:Int) (a0_2:Int) (a0_3:Int):Option (Int × Int × Int × Int):=some (a0_0,a0_1,a0_2,a0_3)
set_option maxHeartbeats 8000000 in
set_option maxRecDepth 100000 in
theorem norm_quat_api.calls (a0_0:Int) (a0_1:Int) (a0_2:Int) (a0_3:Int) (r1:Int) (r2:Int) (r3:Int) (r4:Int) (w:World) (h:norm_quat_api.f a0_0 a0_1 a0_2 a0_3=some (r1,r2,r3,r4)) :
    Calls Try.prog 50 #[.agg #[.int .i64 a0_0,.int .i64 a0_1,.int .i64 a0_2,.int .i64 a0_3]] w fun e w'=>e=.returned (.agg #[.int .i64 r1,.int .i64 r2,.int .i64 r3,.int .i64 r4])∧Below w.heap.size w w':=by
 have hu67:=Try.underlying67;have hu23:=Try.underlying23;have HB:=mk0 (Below.refl w.heap.size w);have H:(some (a0_0,a0_1,a0_2,a0_3))=some (r1,r2,r3,r4):=h;clear h;simp only [Option.some.injEq,Prod.mk.injEq] at H;obtain ⟨rfl,rfl,rfl,rfl⟩:=H;go_enter Try.func50,Try.ntmps50;go_wp2_with (first|((with_reducible refine gate_dst (N:=1) rfl ?_);refine box_event ?hg (N:=1) ?hd (cs:=#[.int .i64 a0_0,.int .i64 a0_1,.int .i64 a0_2,.int .i64 a0_3]) (t:=67) ?hr ?_;(case hd=>rfl);(case hg=>rfl);(case hr=>first|(go_simp;done)|(go_simp;rfl));intro gb179 hg w2 hbox hb;have BK179:=mk0 (hbox);have GW179:=szw hg HB;have GE179:=GW179;replace HB:=bst HB hb;clear hb hbox hg)|((with_reducible refine gate_dst (N:=2) rfl ?_);refine box_event ?hg (N:=2) ?hd (cs:=#[.int .i64 0,.int .i64 0,.int .i64 0,.int .i64 0]) (t:=23) ?hr ?_;(case hd=>rfl);(case hg=>rfl);(case hr=>first|(go_simp;done)|(go_simp;rfl));intro gb180 hg w3 hbox hb;have BK180:=mk0 (hbox);have GW180:=szw hg HB;have GE180:=GW180;have NB179_180:=nlt hg BK179;have NB180_179:=ngt hg BK179;replace BK179:=bkb BK179 hb;replace HB:=bst HB hb;clear hb hbox hg;have hnb4:=NB179_180.out;have hnc4:=NB180_179.out;have hcz5_0:w3.cell? ⟨gb179,0,none⟩=some (.int .i64 a0_0):=(blk_cell BK179.out 0).trans rfl;have hcz5_1:w3.cell? ⟨gb179,1,none⟩=some (.int .i64 a0_1):=(blk_cell BK179.out 1).trans rfl;have hcz5_2:w3.cell? ⟨gb179,2,none⟩=some (.int .i64 a0_2):=(blk_cell BK179.out 2).trans rfl;have hcz5_3:w3.cell? ⟨gb179,3,none⟩=some (.int .i64 a0_3):=(blk_cell BK179.out 3).trans rfl;have hfz5_0:=blk_frozen BK179.out 0;have hfz5_1:=blk_frozen BK179.out 1;have hfz5_2:=blk_frozen BK179.out 2;have hfz5_3:=blk_frozen BK179.out 3;have hcz6_0:w3.cell? ⟨gb180,0,none⟩=some (.int .i64 0):=(blk_cell BK180.out 0).trans rfl;have hcz6_1:w3.cell? ⟨gb180,1,none⟩=some (.int .i64 0):=(blk_cell BK180.out 1).trans rfl;have hcz6_2:w3.cell? ⟨gb180,2,none⟩=some (.int .i64 0):=(blk_cell BK180.out 2).trans rfl;have hcz6_3:w3.cell? ⟨gb180,3,none⟩=some (.int .i64 0):=(blk_cell BK180.out 3).trans rfl;have hfz6_0:=blk_frozen BK180.out 0;have hfz6_1:=blk_frozen BK180.out 1;have hfz6_2:=blk_frozen BK180.out 2;have hfz6_3:=blk_frozen BK180.out 3));refine bodyPost_ret (results_cell_row rfl _ _ gb180 23 #[.int .i64 a0_0,.int .i64 a0_1,.int .i64 a0_2,.int .i64 a0_3] (0,0) _ rfl (by refine blk_put (cs:=#[.int .i64 a0_0,.int .i64 a0_1,.int .i64 a0_2,.int .i64 0]) ?_ 3 _ rfl;refine blk_put (cs:=#[.int .i64 a0_0,.int .i64 a0_1,.int .i64 0,.int .i64 0]) ?_ 2 _ rfl;refine blk_put (cs:=#[.int .i64 a0_0,.int .i64 0,.int .i64 0,.int .i64 0]) ?_ 1 _ rfl;refine blk_put (cs:=#[.int .i64 0,.int .i64 0,.int .i64 0,.int .i64 0]) ?_ 0 _ rfl;exact BK180.out) Try.underlying23 rfl (by kernel_rfl)) rfl ?_;exact ⟨by first|rfl|(simp [errW_none,errW_some] <;> rfl)|(simp [*,errW_none,errW_some] <;> rfl),by repeat (first|(with_reducible first|exact HB.out|apply below_alloc|apply pw_below_drewN|apply below_drew1|refine below_set ?_ GE179.out|refine below_set ?_ GE180.out)|exact HB.out)⟩
end Go.Proofs.Ytgfnmimfoicmmaa.PM
