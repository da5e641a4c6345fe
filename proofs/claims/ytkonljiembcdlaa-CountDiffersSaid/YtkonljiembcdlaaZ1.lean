import Derived.Test.YtkonljiembcdlaaPCx0
import Derived.Test.YtkonljiembcdlaaPCx4
import Derived.Test.YtkonljiembcdlaaPCx5
import Derived.Test.YtkonljiembcdlaaPCx1
import Derived.Test.YtkonljiembcdlaaPCx3
import Derived.Test.YtkonljiembcdlaaWMore
import Derived.Test.YtkonljiembcdlaaProg
import Derived.WalkKit
import Derived.ProofKit
import Derived.OpenShut
import Derived.Lib.SmallJoins
import Derived.SizedLaws
import Derived.Deep.Slices
import Derived.Test.YtkonljiembcdlaaZ0
namespace Go.Proofs.Ytkonljiembcdlaa.PC
open Go.Proofs.MyWords Go.RowKit Go.Proofs.YtkonljiembcdlaaW.PrintWords Go.Proofs.YtkonljiembcdlaaW.PrintLast Go.Proofs.YtkonljiembcdlaaW.PrintMore
attribute [local go_sem] max2_int min2_int max_two min_two max_three min_three max_four min_four   -- for this text's walks alone
set_option linter.unusedVariables false
set_option linter.unusedSimpArgs false
attribute [local go_sem] eqGuard_slices eqlnil23 neqnil23 eqlnil58 neqnil58
mutual
def bellpulllaw05_CountDiffers.j0:Nat → List (S60) → List (S60) → Int → Bool → Int → Int → List (S60) → List (S60) → List Int → Option (Bool)
  | 0,_,_,_,_,_,_,_,_,_=>none
  | k + 1,x3,x4,x5,x32,x969000,x969001,x969002,x969003,x969004=>if x32=true then ((bellpulllaw05_lives.f k).bind fun t981=>(some t981)) else ((count_Differ.f k x969000 x3 x4 x969001).bind fun bt982=>(if x5=3 then (bellpulllaw05_CountDiffers.j1 k x3 x4 x5 bt982.1 bt982.2 false x969000 x969001 x969002 x969003 x969004) else ((bellpullref01_In.f x969001 0 20).bind fun t986=>(bellpulllaw05_CountDiffers.j1 k x3 x4 x5 bt982.1 bt982.2 (!t986) x969000 x969001 x969002 x969003 x969004))))
def bellpulllaw05_CountDiffers.j1:Nat → List (S60) → List (S60) → Int → List Int → Int → Bool → Int → Int → List (S60) → List (S60) → List Int → Option (Bool)
  | 0,_,_,_,_,_,_,_,_,_,_,_=>none
  | k + 1,x3,x4,x5,x6,x7,x51,x969000,x969001,x969002,x969003,x969004=>if x51=true then (bellpulllaw05_CountDiffers.j2 k x3 x4 1 x6 x7 x969000 x969001 x969002 x969003 x969004) else (bellpulllaw05_CountDiffers.j2 k x3 x4 x5 x6 x7 x969000 x969001 x969002 x969003 x969004)
def bellpulllaw05_CountDiffers.j2:Nat → List (S60) → List (S60) → Int → List Int → Int → Int → Int → List (S60) → List (S60) → List Int → Option (Bool)
  | 0,_,_,_,_,_,_,_,_,_,_=>none
  | k + 1,x3,x4,x5,x6,x7,x969000,x969001,x969002,x969003,x969004=>if x5=0 then (bellpulllaw05_CountDiffers.l0 k x3 x4 x6 x7 0 x969000 x969001 x969002 x969003 x969004) else (if (x6.length:Int)=0 then (if x7=x5 then ((bellpulllaw05_lives.f k).bind fun t987=>(some t987)) else (none)) else (none))
def bellpulllaw05_CountDiffers.l0:Nat → List (S60) → List (S60) → List Int → Int → Int → Int → Int → List (S60) → List (S60) → List Int → Option (Bool)
  | 0,_,_,_,_,_,_,_,_,_,_=>none
  | k + 1,x3,x4,x6,x7,x8,x969000,x969001,x969002,x969003,x969004=>if x8 ≤ x969001 then ((bellpullref05_All.f k x969000 x8).bind fun t989=>(bellpulllaw05_CountDiffers.l1 k x3 x4 x6 x7 x8 t989 0 x969000 x969001 x969002 x969003 x969004)) else (if (x6.length:Int)=0 then (if x7=5 then ((bellpulllaw05_lives.f k).bind fun t988=>(some t988)) else (none)) else (none))
def bellpulllaw05_CountDiffers.l1:Nat → List (S60) → List (S60) → List Int → Int → Int → List (List Int) → Int → Int → Int → List (S60) → List (S60) → List Int → Option (Bool)
  | 0,_,_,_,_,_,_,_,_,_,_,_,_=>none
  | k + 1,x3,x4,x6,x7,x8,x9,x10,x969000,x969001,x969002,x969003,x969004=>if x10 < (x9.length:Int) then (if 0 ≤ x10 then ((bellpullref05_Has.f k x3 (rd_L1 x9 x10)).bind fun t993=>((bellpullref05_Has.f k x4 (rd_L1 x9 x10)).bind fun t995=>(if t993=true then (if t995=true then (bellpulllaw05_CountDiffers.l1 k x3 x4 x6 x7 x8 x9 (wrap64 (x10 + 1)) x969000 x969001 x969002 x969003 x969004) else ((bellpullref01_Same.f k x6 (rd_L1 x9 x10)).bind fun t997=>(if t997=true then (if x7=0 then ((bellpulllaw05_lives.f k).bind fun t998=>(some t998)) else (none)) else (none)))) else (if t995=true then ((bellpullref01_Same.f k x6 (rd_L1 x9 x10)).bind fun t1000=>(if t1000=true then (if x7=0 then ((bellpulllaw05_lives.f k).bind fun t1001=>(some t1001)) else (none)) else (none))) else (bellpulllaw05_CountDiffers.l1 k x3 x4 x6 x7 x8 x9 (wrap64 (x10 + 1)) x969000 x969001 x969002 x969003 x969004))))) else (none)) else (bellpulllaw05_CountDiffers.l0 k x3 x4 x6 x7 (wrap64 (x8 + 1)) x969000 x969001 x969002 x969003 x969004)
end
def bellpulllaw05_CountDiffers.f (k:Nat) (a0_0:Int) (a0_1:Int) (l0_2:List (S60)) (l0_3:List (S60)) (l0_4:List Int):Option (Bool):=(bellpulllaw05_few.f k l0_2).bind fun t969=>((bellpulllaw05_few.f k l0_3).bind fun t972=>((bellpullref05_Check.f k a0_0 (([t969,t972]:List (List (S60))))).bind fun t978=>(if t978=0 then ((bellpulllaw05_heavy.f k t969).bind fun t979=>(if t979=true then (bellpulllaw05_CountDiffers.j0 k t969 t972 t978 true a0_0 a0_1 l0_2 l0_3 l0_4) else ((bellpulllaw05_heavy.f k t972).bind fun t980=>(bellpulllaw05_CountDiffers.j0 k t969 t972 t978 t980 a0_0 a0_1 l0_2 l0_3 l0_4)))) else (bellpulllaw05_CountDiffers.j0 k t969 t972 t978 false a0_0 a0_1 l0_2 l0_3 l0_4))))
def bellpulllaw05_CountDiffers.T1:Bool × List (List Nat × List Nat):=(true,[([],[]),([0],[0]),([1],[1]),([],[]),([3],[3]),([4,2],[4]),([2,5,0,1,2],[2]),([5,6,0,1,2,3,4,5,6],[5])])
def bellpulllaw05_CountDiffers.B1:List Nat:=[0,1,3,0,8,31,63,127]
theorem bellpulllaw05_CountDiffers.tab1:rtab .any (opsOf Try.f13 1)=bellpulllaw05_CountDiffers.T1:=by kernel_rfl
theorem bellpulllaw05_CountDiffers.bits1:waitsOk bellpulllaw05_CountDiffers.T1.2 bellpulllaw05_CountDiffers.B1=true:=by kernel_rfl
def bellpulllaw05_CountDiffers.T17:Bool × List (List Nat × List Nat):=(true,[([],[]),([],[]),([],[]),([1,2],[1,2]),([3],[3]),([0,4],[0,4]),([],[]),([],[]),([],[]),([7,8],[7,8]),([9],[9]),([6,10,5],[6,10]),([5,11],[5,11])])
def bellpulllaw05_CountDiffers.B17:List Nat:=[0,0,0,6,14,31,0,0,0,384,896,2047,4095]
theorem bellpulllaw05_CountDiffers.tab17:rtab .any (opsOf Try.f13 17)=bellpulllaw05_CountDiffers.T17:=by kernel_rfl
theorem bellpulllaw05_CountDiffers.bits17:waitsOk bellpulllaw05_CountDiffers.T17.2 bellpulllaw05_CountDiffers.B17=true:=by kernel_rfl
set_option maxHeartbeats 8000000 in
set_option maxRecDepth 100000 in
theorem bellpulllaw05_CountDiffers.calls (k:Nat) (a0:Int) (a1:Int) (d8:Option Addr) (d9:Nat) (a2:List (S60)) (e0:Option Addr) (e1:Nat) (a3:List (S60)) (e5:Option Addr) (e6:Nat) (a4:List Int) (r:Bool) (w:World) (q8:Kd.C k60 w d8 a2.length a2) (q9:a2.length ≤ d9) (r0:Kd.C k60 w e0 a3.length a3) (r1:a3.length ≤ e1) (r2:Kd.C (Kd.int .i64) w e5 a4.length a4) (r3:a4.length ≤ e6) (h:bellpulllaw05_CountDiffers.f k a0 a1 a2 a3 a4=some r) :
    Calls Try.prog 13 #[.agg #[.int .i64 a0,.int .i64 a1,.slice d8 a2.length d9,.slice e0 a3.length e1,.slice e5 a4.length e6]] w fun e w'=>e=.returned (.bool r)∧Below w.heap.size w w':=by
 have E8:=Try.underlying25;have x9:=mk0 q8;have y0:=mk0 q9;clear q8 q9;have y1:=mk0 r0;have y2:=mk0 r1;clear r0 r1;have E4:=mk0 r2;have E5:=mk0 r3;clear r2 r3;have U:=mk0 (Below.refl w.heap.size w);have H:((bellpulllaw05_few.f k a2).bind fun M=>((bellpulllaw05_few.f k a3).bind fun O=>((bellpullref05_Check.f k a0 (([M,O]:List (List (S60))))).bind fun a9=>(if a9=0 then ((bellpulllaw05_heavy.f k M).bind fun n5=>(if n5=true then (bellpulllaw05_CountDiffers.j0 k M O a9 true a0 a1 a2 a3 a4) else ((bellpulllaw05_heavy.f k O).bind fun h5=>(bellpulllaw05_CountDiffers.j0 k M O a9 h5 a0 a1 a2 a3 a4)))) else (bellpulllaw05_CountDiffers.j0 k M O a9 false a0 a1 a2 a3 a4)))))=some r:=h;clear h;replace H:=Option.bind_eq_some_iff.mp H;obtain ⟨M,r4,H⟩:=H;(try dsimp only at H);have A2:=mk0 r4;clear r4;replace H:=Option.bind_eq_some_iff.mp H;obtain ⟨O,y8,H⟩:=H;(try dsimp only at H);have A3:=mk0 y8;clear y8;obtain ⟨q4,l8⟩:∃ y_:List (List (S60)),y_=(([M,O]:List (List (S60)))):=⟨_,rfl⟩;(replace H:((bellpullref05_Check.f k a0 q4).bind fun a9=>(if a9=0 then ((bellpulllaw05_heavy.f k M).bind fun n5=>(if n5=true then (bellpulllaw05_CountDiffers.j0 k M O a9 true a0 a1 a2 a3 a4) else ((bellpulllaw05_heavy.f k O).bind fun h5=>(bellpulllaw05_CountDiffers.j0 k M O a9 h5 a0 a1 a2 a3 a4)))) else (bellpulllaw05_CountDiffers.j0 k M O a9 false a0 a1 a2 a3 a4)))=some r:=by first|(rw [l8];with_reducible exact H)|(have u2:=(Option.bind_some _ _).symm.trans H;rw [l8];with_reducible exact u2)|(have u2:=(Option.bind_some _ _).symm.trans H;with_reducible exact u2)|with_reducible exact H|(rw [l8];exact H)|exact H);(have r5:=mk0 l8;clear l8;replace H:=Option.bind_eq_some_iff.mp H;obtain ⟨a9,n6,H⟩:=H;(try dsimp only at H);have A4:=mk0 n6;clear n6;have u3:=mk0 H;clear H;go_enter Try.func13,Try.ntmps13;try go_wp2_with (first|((with_reducible refine gate_dst (N:=1) rfl ?_);refine box_event ?hg (N:=1) ?hd (cs:=#[.int .i64 a0,.int .i64 a1,.slice d8 a2.length d9,.slice e0 a3.length e1,.slice e5 a4.length e6]) (t:=25) ?hr ?_;(case hd=>rfl);(case hg=>rfl);(case hr=>first|(go_simp;done)|(go_simp;rfl));intro T hg w6 u4 hb;have B:=mk0 (u4);have y3:=szw hg U;have b8:=y3;replace U:=bst U hb;clear hb u4 hg)));replace B:=bdr B;replace U:=hdr U;refine start_ (n:=8) (S:=fun w'=>w'.cell? ⟨T,0,none⟩=some (.int .i64 a0)∧w'.cell? ⟨T,1,none⟩=some (.int .i64 a1)∧w'.cell? ⟨T,2,none⟩=some (.slice d8 a2.length d9)∧w'.cell? ⟨T,3,none⟩=some (.slice e0 a3.length e1)∧w'.cell? ⟨T,4,none⟩=some (.slice e5 a4.length e6)) (ds:=[]) #[n_,n_,n_,n_,n_,n_,n_,n_] (by kernel_rfl) rfl rfl ⟨q0_ B,q1_ B,q2_ B,q3_ B,((blk_cell B.1 4).trans rfl)⟩ (fun G=>?_);refine with_tabW bellpulllaw05_CountDiffers.tab1 bellpulllaw05_CountDiffers.bits1 (fun X g0=>?_);generalize w6.drew=w7 at B U G ⊢;refine pure_ (i:=0) (N:=some 11) (v:=?_) (a':=?_) #[y_,n_,n_,n_,n_,n_,n_,n_] rfl rfl (any_of X.1 (by kernel_rfl)) (fun _ _ _ h=>h) (Or.inl ⟨by rfl,?_⟩) ?_ ?_;rotate_left;(· intro w';go_simp;with_reducible rfl);rotate_left;(· simp only [Act.put,s0_,s1_,s2_,i64_w,i32_w];rfl);refine pure_ (i:=3) (N:=some 14) (v:=?_) (a':=?_) #[y_,n_,n_,y_,n_,n_,n_,n_] rfl rfl (any_of X.1 (by kernel_rfl)) (fun _ _ _ h=>h) (Or.inl ⟨by rfl,?_⟩) ?_ ?_;rotate_left;(· intro w';go_simp;with_reducible rfl);rotate_left;(· simp only [Act.put,s0_,s1_,s2_,i64_w,i32_w];rfl);refine take_ (i:=1) (N:=some 12) (v:=?_) (a':=?_) #[y_,y_,n_,y_,n_,n_,n_,n_] rfl rfl (take_ofW X.1 g0.1 (by kernel_rfl)) (fun _ _ _ h=>h) (Or.inl ⟨by rfl,?_⟩) G ?_ ?_;rotate_left;(· rintro w' ⟨s0,s1,s2,s3,s4⟩;go_simp;with_reducible rfl);rotate_left;(· simp only [Act.put,s0_,s1_,s2_,i64_w,i32_w];rfl);refine take_ (i:=4) (N:=some 15) (v:=?_) (a':=?_) #[y_,y_,n_,y_,y_,n_,n_,n_] rfl rfl (take_ofW X.1 g0.1 (by kernel_rfl)) (fun _ _ _ h=>h) (Or.inl ⟨by rfl,?_⟩) G ?_ ?_;rotate_left;(· rintro w' ⟨s0,s1,s2,s3,s4⟩;go_simp;with_reducible rfl);rotate_left;(· simp only [Act.put,s0_,s1_,s2_,i64_w,i32_w];rfl);(refine one_ (i:=2) (N:=some 13) #[y_,y_,y_,y_,y_,n_,n_,n_] rfl rfl (one_of X.1 (by kernel_rfl)) (by decide) (fun K hK=>?_);refine goes_ Try.func17 (by kernel_rfl) rfl #[.slice d8 a2.length d9] (by rfl) rfl rfl (by (try simp only [m0_,m1_,m2_]);first|done|rfl|(simp only [l0_,l1_];rfl)) ?_;with_reducible refine (bellpulllaw05_few.calls k _ _ a2 M _ ?side1 ?side2 A2.1).mono ?_);(case side1=>repeat (first|exact (Kd.C_below x9.1 U.1)|(with_reducible refine Kd.C_alloc ?_ _)|(with_reducible refine Kd.C_drewN ?_ _)|(with_reducible refine Kd.C_drew ?_)));(case side2=>exact y0.1);rintro e w8 ⟨z0,rfl,e2,hb⟩;refine ⟨_,rfl,?_⟩;have c8:=mk0 (Kd.N_lower (Kd.N_mono (ok':=fun k_=>k_ ≠ T) (Kd.R_N (Kd.R_bound e2)) (fun k_ hk_=>(Kd.freshB (g:=T) (o:=.cells #[.int .i64 a0,.int .i64 a1,.slice d8 a2.length d9,.slice e0 a3.length e1,.slice e5 a4.length e6] 25 (0,0)) B.1 k_ hk_.2.1))) (below_size U.1));replace B:=bkb B hb;replace U:=bst U hb;(try clear hb);(try clear e2);refine hK.out _ _ ⟨q0_ B,q1_ B,q2_ B,q3_ B,((blk_cell B.1 4).trans rfl)⟩ (fun G=>?_);clear hK K;refine norm_ (a':=?_) ?_ ?_;rotate_left;(· show Act.put _ (some 13) _=_;simp only [Act.put,s0_,s1_,s2_,i64_w,i32_w];rfl);(refine one_ (i:=5) (N:=some 16) #[y_,y_,y_,y_,y_,y_,n_,n_] rfl rfl (one_of X.1 (by kernel_rfl)) (by decide) (fun K hK=>?_);refine goes_ Try.func17 (by kernel_rfl) rfl #[.slice e0 a3.length e1] (by rfl) rfl rfl (by (try simp only [m0_,m1_,m2_]);first|done|rfl|(simp only [l0_,l1_];rfl)) ?_;with_reducible refine (bellpulllaw05_few.calls k _ _ a3 O _ ?side1 ?side2 A3.1).mono ?_);(case side1=>repeat (first|exact (Kd.C_below y1.1 U.1)|(with_reducible refine Kd.C_alloc ?_ _)|(with_reducible refine Kd.C_drewN ?_ _)|(with_reducible refine Kd.C_drew ?_)));(case side2=>exact y2.1);rintro e w9 ⟨F7,rfl,e2,hb⟩;refine ⟨_,rfl,?_⟩;have e7:=mk0 (Kd.N_lower (Kd.N_mono (ok':=fun k_=>some k_ ≠ (z0:Value).ownBlock∧k_ ≠ T) (Kd.R_N (Kd.R_bound e2)) (fun k_ hk_=>⟨(Kd.fresh' (Kd.N_lt c8.1) k_ hk_.2.1),(Kd.freshB (g:=T) (o:=.cells #[.int .i64 a0,.int .i64 a1,.slice d8 a2.length d9,.slice e0 a3.length e1,.slice e5 a4.length e6] 25 (0,0)) B.1 k_ hk_.2.1)⟩)) (below_size U.1));replace c8:=mk0 (Kd.N_elder' c8.1 (by first|exact Kd.N_base e2|exact Kd.S_base e2|exact Kd.R_base e2) hb);replace B:=bkb B hb;replace U:=bst U hb;(try clear hb);(try clear e2);refine hK.out _ _ ⟨q0_ B,q1_ B,q2_ B,q3_ B,((blk_cell B.1 4).trans rfl)⟩ (fun G=>?_);clear hK K;refine norm_ (a':=?_) ?_ ?_;rotate_left;(· show Act.put _ (some 16) _=_;simp only [Act.put,s0_,s1_,s2_,i64_w,i32_w];rfl);refine pure_ (i:=6) (N:=some 3) (v:=?_) (a':=?_) #[y_,y_,y_,y_,y_,y_,y_,n_] rfl rfl (any_of X.1 (by kernel_rfl)) (fun _ _ _ h=>h) (Or.inl ⟨by rfl,?_⟩) ?_ ?_;rotate_left;(· intro w';go_simp;with_reducible rfl);rotate_left;(· simp only [Act.put,s0_,s1_,s2_,i64_w,i32_w];rfl);refine pure_ (i:=7) (N:=some 4) (v:=?_) (a':=?_) #[y_,y_,y_,y_,y_,y_,y_,y_] rfl rfl (any_of X.1 (by kernel_rfl)) (fun _ _ _ h=>h) (Or.inl ⟨by rfl,?_⟩) ?_ ?_;rotate_left;(· intro w';go_simp;with_reducible rfl);rotate_left;(· simp only [Act.put,s0_,s1_,s2_,i64_w,i32_w];rfl);refine done_ (done_of X.1 (by kernel_rfl)) ?_;have g1:=q0_ B;have g2:=q1_ B;have g3:=q2_ B;have g4:=q3_ B;have g5:=((blk_cell B.1 4).trans rfl);have g6:=blk_frozen B.1 0;have g7:=blk_frozen B.1 1;have g8:=blk_frozen B.1 2;have g9:=blk_frozen B.1 3;have h0:=blk_frozen B.1 4;obtain ⟨b9,c0,z1⟩:=Kd.N_slice c8.1;subst z1;obtain ⟨c5,c6,z2⟩:=Kd.N_slice e7.1;subst z2;go_upto_region 3 with (first|((with_reducible refine gate_dst (N:=21) rfl ?_);refine Kd.N_lit (Kd.slice 60 k60) _ 22 ?hg (N':=21) ?hd (xs:=([M,O]:List (List (S60)))) (inner:=[.slice b9 M.length c0,.slice c5 O.length c6]) (ok:=(fun k_=>k_ ≠ T)) (okp:=(fun k_=>k_ ≠ T)) ?hr ?hp (fun _ hk=>hk) ((show ∀ k_,w9.heap.size ≤ k_ → (fun k_=>k_ ≠ T) k_ from fun k_ hk=>Kd.freshB (g:=T) (o:=.cells #[.int .i64 a0,.int .i64 a1,.slice d8 a2.length d9,.slice e0 a3.length e1,.slice e5 a4.length e6] 25 (0,0)) B.1 k_ hk) _ (Nat.le_refl _)) (Below.refl _ _) (Nat.le_refl _) (by simp) ?_;(case hd=>rfl);(case hg=>rfl);(case hr=>first|(go_simp;done)|(go_simp;rfl));(case hp=>exact (Reps.one (show Kd.FK (Kd.slice 60 k60) _ _ M [.slice b9 M.length c0] from (Kd.FK_slice_mk (Kd.N_reads' (Kd.N_mono (ok':=(fun k_=>k_ ≠ T)) (c8.1) (fun k_ hk=>hk.1))).2.1 (Kd.N_F (Kd.N_mono (ok':=(fun k_=>k_ ≠ T)) (c8.1) (fun k_ hk=>hk.1))))) (Reps.one (show Kd.FK (Kd.slice 60 k60) _ _ O [.slice c5 O.length c6] from (Kd.FK_slice_mk (Kd.N_reads' (Kd.N_mono (ok':=(fun k_=>k_ ≠ T)) (e7.1) (fun k_ hk=>hk.2))).2.1 (Kd.N_F (Kd.N_mono (ok':=(fun k_=>k_ ≠ T)) (e7.1) (fun k_ hk=>hk.2))))) (Reps.none _ _))));intro F8 H6 f5 hb hg_ y4;clear hg_ y4;(first|rw [← r5.1] at f5|(simp only [Int.reduceToNat] at f5;rw [← r5.1] at f5));have l9:=mk0 (Kd.N_lower f5 (below_size U.1));replace c8:=mk0 (Kd.N_elder' c8.1 (by first|exact Kd.N_base f5|exact Kd.S_base f5|exact Kd.R_base f5) hb);replace e7:=mk0 (Kd.N_elder' e7.1 (by first|exact Kd.N_base f5|exact Kd.S_base f5|exact Kd.R_base f5) hb);replace B:=bkb B hb;replace U:=bst U hb;clear hb f5;obtain ⟨z3,z4,z5⟩:=Kd.N_slice l9.1;subst z5)|((with_reducible refine gate_callee (f:=19) rfl ?_);refine goesL_ (some 22) rfl rfl Try.func19 (by kernel_rfl) rfl #[.int .i64 a0,.slice z3 q4.length z4] rfl (by (try simp only [m0_,m1_,m2_]);first|done|rfl|(simp only [l0_,l1_];rfl)) ?_;(with_reducible refine (bellpullref05_Check.calls k a0 _ _ q4 a9 _ ?side1 ?side2 A4.1).mono ?_);(case side1=>repeat (first|exact (Kd.N_reads' l9.1).2.2|(with_reducible refine Kd.C_alloc ?_ _)|(with_reducible refine Kd.C_drewN ?_ _)|(with_reducible refine Kd.C_drew ?_)));(case side2=>exact (Kd.N_reads' l9.1).2.1);rintro e H7 ⟨rfl,hb⟩;refine ⟨_,rfl,?_⟩;replace c8:=mk0 (Kd.N_below c8.1 hb);replace e7:=mk0 (Kd.N_below e7.1 hb);replace l9:=mk0 (Kd.N_below l9.1 hb);replace B:=bkb B hb;replace U:=bst U hb;(try clear hb);(try clear hk)));(try simp only [Act.put,s0_,s1_,s2_]);go_cut [32] (fun D1 wc=>∃ (kq:Nat) (n3:Bool),D1=.bool n3∧Aside0 (bellpulllaw05_CountDiffers.j0 kq M O a9 n3 a0 a1 a2 a3 a4=some r)∧Aside0 (kq ≤ k)∧Aside0 (Kd.N k60 60 wc w.heap.size (fun k_=>some k_ ≠ ((.slice c5 O.length c6):Value).ownBlock∧k_ ≠ T) (.slice b9 M.length c0) M)∧Aside0 (Kd.N k60 60 wc w.heap.size (fun k_=>some k_ ≠ ((.slice b9 M.length c0):Value).ownBlock∧k_ ≠ T) (.slice c5 O.length c6) O)∧Aside0 (wc.heap[T]?=some (.cells #[.int .i64 a0,.int .i64 a1,(.slice d8 a2.length d9),(.slice e0 a3.length e1),(.slice e5 a4.length e6)] 25 (0,0)))∧Aside0 (Below w.heap.size w wc));case first =>have H:=u3.1;clear u3;by_cases c17:a9=0;(· rw [if_pos c17] at H;have c17b0:(a9 == 0)=true:=beq_iff_eq.mpr c17;have c17b1:(a9 != 0)=false:=bne_eq_false_iff_eq.mpr c17;clear c17;(first|rw [c17b0]|(simp only [i64_w,i32_w];rw [c17b0])|skip);replace H:=Option.bind_eq_some_iff.mp H;obtain ⟨n5,u5,H⟩:=H;(try dsimp only at H);have y9:=mk0 u5;clear u5;by_cases m0:n5=true;(· (subst m0;have H1:(bellpulllaw05_CountDiffers.j0 k M O a9 true a0 a1 a2 a3 a4)=some r:=by rw [if_pos rfl] at H;exact H);clear H;have H:=H1;clear H1;have H':=mk0 H;clear H;go_wp2_with (first|(go_at_call 21;(with_reducible refine (bellpulllaw05_heavy.calls k _ _ M true _ ?side1 ?side2 y9.1).mono ?_);(case side1=>repeat (first|exact (Kd.N_reads' c8.1).2.2|(with_reducible refine Kd.C_alloc ?_ _)|(with_reducible refine Kd.C_drewN ?_ _)|(with_reducible refine Kd.C_drew ?_)));(case side2=>exact (Kd.N_reads' c8.1).2.1);rintro e w' ⟨rfl,⟨nd,rfl⟩⟩));go_meet;case rel=>exact ⟨_,(true),(by first|rfl|(simp;done)|(simp [*];done)),H',⟨by first|omega|exact Nat.le_refl _⟩,⟨by (with_reducible repeat (first|apply Kd.N_alloc|apply Kd.N_drewN|apply Kd.N_drew));exact Kd.N_mono c8.1 (fun _ hk=>⟨hk.1.2,hk.1.1⟩)⟩,⟨by (with_reducible repeat (first|apply Kd.N_alloc|apply Kd.N_drewN|apply Kd.N_drew));exact Kd.N_mono e7.1 (fun _ hk=>⟨hk.1.1,hk.1.2⟩)⟩,⟨by exact B.1⟩,⟨by repeat (first|(with_reducible first|exact U.1|apply below_alloc|apply pw_below_drewN|apply below_drew1|refine below_set ?_ b8.1)|exact U.1)⟩⟩);· (replace m0:=Bool.eq_false_iff.mpr m0;subst m0;have H1:((bellpulllaw05_heavy.f k O).bind fun h5=>(bellpulllaw05_CountDiffers.j0 k M O a9 h5 a0 a1 a2 a3 a4))=some r:=by rw [if_neg (show ¬ (false=true) by decide)] at H;exact H);clear H;have H:=H1;clear H1;replace H:=Option.bind_eq_some_iff.mp H;obtain ⟨h5,u6,H⟩:=H;(try dsimp only at H);have r4:=mk0 u6;clear u6;have H':=mk0 H;clear H;go_wp2_with (first|(go_at_call 21;(with_reducible refine (bellpulllaw05_heavy.calls k _ _ M false _ ?side1 ?side2 y9.1).mono ?_);(case side1=>repeat (first|exact (Kd.N_reads' c8.1).2.2|(with_reducible refine Kd.C_alloc ?_ _)|(with_reducible refine Kd.C_drewN ?_ _)|(with_reducible refine Kd.C_drew ?_)));(case side2=>exact (Kd.N_reads' c8.1).2.1);rintro e w' ⟨rfl,⟨nd,rfl⟩⟩)|(go_at_call 21;(with_reducible refine (bellpulllaw05_heavy.calls k _ _ O h5 _ ?side1 ?side2 r4.1).mono ?_);(case side1=>repeat (first|exact (Kd.N_reads' e7.1).2.2|(with_reducible refine Kd.C_alloc ?_ _)|(with_reducible refine Kd.C_drewN ?_ _)|(with_reducible refine Kd.C_drew ?_)));(case side2=>exact (Kd.N_reads' e7.1).2.1);rintro e w' ⟨rfl,⟨nd,rfl⟩⟩));go_meet;case rel=>exact ⟨_,(h5),(by first|rfl|(simp;done)|(simp [*];done)),H',⟨by first|omega|exact Nat.le_refl _⟩,⟨by (with_reducible repeat (first|apply Kd.N_alloc|apply Kd.N_drewN|apply Kd.N_drew));exact Kd.N_mono c8.1 (fun _ hk=>⟨hk.1.2,hk.1.1⟩)⟩,⟨by (with_reducible repeat (first|apply Kd.N_alloc|apply Kd.N_drewN|apply Kd.N_drew));exact Kd.N_mono e7.1 (fun _ hk=>⟨hk.1.1,hk.1.2⟩)⟩,⟨by exact B.1⟩,⟨by repeat (first|(with_reducible first|exact U.1|apply below_alloc|apply pw_below_drewN|apply below_drew1|refine below_set ?_ b8.1)|exact U.1)⟩⟩);· rw [if_neg c17] at H;have c17b0:(a9 == 0)=false:=beq_eq_false_iff_ne.mpr c17;have c17b1:(a9 != 0)=true:=bne_iff_ne.mpr c17;(first|rw [c17b0]|(simp only [i64_w,i32_w];rw [c17b0])|skip);have H':=mk0 H;clear H;go_wp2;go_meet;case rel=>exact ⟨_,(false),(by first|rfl|(simp;done)|(simp [*];done)),H',⟨by first|omega|exact Nat.le_refl _⟩,⟨by (with_reducible repeat (first|apply Kd.N_alloc|apply Kd.N_drewN|apply Kd.N_drew));exact Kd.N_mono c8.1 (fun _ hk=>⟨hk.1.2,hk.1.1⟩)⟩,⟨by (with_reducible repeat (first|apply Kd.N_alloc|apply Kd.N_drewN|apply Kd.N_drew));exact Kd.N_mono e7.1 (fun _ hk=>⟨hk.1.1,hk.1.2⟩)⟩,⟨by exact B.1⟩,⟨by repeat (first|(with_reducible first|exact U.1|apply below_alloc|apply pw_below_drewN|apply below_drew1|refine below_set ?_ b8.1)|exact U.1)⟩⟩
 case rest =>
  (clear u3;try clear c1);(try clear p2);(try clear c13);(try clear c17);(try clear c17b0);(try clear c17b1);(try clear m0);(try clear g1);(try clear g2);(try clear g3);(try clear g4);(try clear g5);(try clear g6);(try clear g7);(try clear g8);(try clear g9);try clear h0
  obtain ⟨kq,n3,rfl,HA,l4,J,L,B,U⟩:=hcut;cases kq with
  | zero=>exact absurd HA.1 (by simp [bellpulllaw05_CountDiffers.j0])
  | succ kj4 =>
   have H:=HA.1;clear HA;simp only [bellpulllaw05_CountDiffers.j0] at H;by_cases n2:n3=true;· (subst n2;have H1:((bellpulllaw05_lives.f kj4).bind fun q5=>(some q5))=some r:=by rw [if_pos rfl] at H;exact H);clear H;have H:=H1;clear H1;replace H:=Option.bind_eq_some_iff.mp H;obtain ⟨q5,u7,H⟩:=H;(try dsimp only at H);have D2:=mk0 u7;clear u7;obtain rfl:=Option.some.inj H;go_wp2_with (first|((with_reducible refine gate_callee (f:=22) rfl ?_);refine goesL_ (some 33) rfl rfl Try.func22 (by kernel_rfl) rfl #[] rfl (by (try simp only [m0_,m1_,m2_]);first|done|rfl|(simp only [l0_,l1_];rfl)) ?_;(with_reducible refine (bellpulllaw05_lives.calls kj4  q5 _ D2.1).mono ?_);rintro e H8 ⟨rfl,hb⟩;refine ⟨_,rfl,?_⟩;replace J:=mk0 (Kd.N_below J.1 hb);replace L:=mk0 (Kd.N_below L.1 hb);replace B:=bkb B hb;replace U:=bst U hb;(try clear hb)));go_ret;exact ⟨by first|rfl|(simp [errW_none,errW_some] <;> rfl)|(simp [*,errW_none,errW_some] <;> rfl),by repeat (first|(with_reducible first|exact U.1|apply below_alloc|apply pw_below_drewN|apply below_drew1|refine below_set ?_ b8.1)|exact U.1)⟩
   ·
    (replace n2:=Bool.eq_false_iff.mpr n2;subst n2;have H1:((count_Differ.f kj4 a0 M O a1).bind fun n4=>(if a9=3 then (bellpulllaw05_CountDiffers.j1 kj4 M O a9 n4.1 n4.2 false a0 a1 a2 a3 a4) else ((bellpullref01_In.f a1 0 20).bind fun p1=>(bellpulllaw05_CountDiffers.j1 kj4 M O a9 n4.1 n4.2 (!p1) a0 a1 a2 a3 a4))))=some r:=by rw [if_neg (show ¬ (false=true) by decide)] at H;exact H);clear H;have H:=H1;clear H1;replace H:=Option.bind_eq_some_iff.mp H;obtain ⟨⟨b0,b1⟩,u8,H⟩:=H;(try dsimp only at H);have D3:=mk0 u8;clear u8;have q6:=mk0 H;clear H;have h7:=q0_ B;have h8:=q1_ B;have h9:=q2_ B;have i0:=q3_ B;have i1:=((blk_cell B.1 4).trans rfl);have i2:=blk_frozen B.1 0;have i3:=blk_frozen B.1 1;have i4:=blk_frozen B.1 2;have i5:=blk_frozen B.1 3;have i6:=blk_frozen B.1 4;go_upto_region 6 with (first|((with_reducible refine gate_callee (f:=43) rfl ?_);refine goesL_ (some 41) rfl rfl Try.func43 (by kernel_rfl) rfl #[.int .i64 a0,.slice b9 M.length c0,.slice c5 O.length c6,.int .i64 a1] rfl (by (try simp only [m0_,m1_,m2_]);first|done|rfl|(simp only [l0_,l1_];rfl)) ?_;(with_reducible refine (count_Differ.calls kj4 a0 _ _ M _ _ O a1 b0 b1 _ ?side1 ?side2 ?side3 ?side4 D3.1).mono ?_);(case side1=>repeat (first|exact (Kd.N_reads' J.1).2.2|(with_reducible refine Kd.C_alloc ?_ _)|(with_reducible refine Kd.C_drewN ?_ _)|(with_reducible refine Kd.C_drew ?_)));(case side2=>exact (Kd.N_reads' J.1).2.1);(case side3=>repeat (first|exact (Kd.N_reads' L.1).2.2|(with_reducible refine Kd.C_alloc ?_ _)|(with_reducible refine Kd.C_drewN ?_ _)|(with_reducible refine Kd.C_drew ?_)));(case side4=>exact (Kd.N_reads' L.1).2.1);rintro e H9 ⟨p3,rfl,e2,hb⟩;refine ⟨_,rfl,?_⟩;have r6:=mk0 (Kd.V_lower (Kd.V_mono (ok':=fun k_=>some k_ ≠ (.slice b9 M.length c0:Value).ownBlock∧some k_ ≠ (.slice c5 O.length c6:Value).ownBlock∧k_ ≠ T) e2 (fun k_ hk_=>⟨(Kd.fresh' (Kd.N_lt J.1) k_ hk_),(Kd.fresh' (Kd.N_lt L.1) k_ hk_),(Kd.freshB (g:=T) (o:=.cells #[.int .i64 a0,.int .i64 a1,.slice d8 a2.length d9,.slice e0 a3.length e1,.slice e5 a4.length e6] 25 (0,0)) B.1 k_ hk_)⟩)) (below_size U.1));replace J:=mk0 (Kd.N_below J.1 hb);replace L:=mk0 (Kd.N_below L.1 hb);replace B:=bkb B hb;replace U:=bst U hb;(try clear hb);(try clear e2)));(try simp only [Act.put,s0_,s1_,s2_]);go_cut [51] (fun D4 wc=>∃ (kq:Nat) (m1:Bool),D4=.bool m1∧Aside0 (bellpulllaw05_CountDiffers.j1 kq M O a9 b0 b1 m1 a0 a1 a2 a3 a4=some r)∧Aside0 (kq ≤ kj4)∧Aside0 (Kd.N k60 60 wc w.heap.size (fun k_=>some k_ ≠ ((.slice c5 O.length c6):Value).ownBlock∧k_ ≠ T) (.slice b9 M.length c0) M)∧Aside0 (Kd.N k60 60 wc w.heap.size (fun k_=>some k_ ≠ ((.slice b9 M.length c0):Value).ownBlock∧k_ ≠ T) (.slice c5 O.length c6) O)∧Aside0 (Kd.V (Kd.int .i64) 3 wc w.heap.size (fun k_=>some k_ ≠ ((.slice b9 M.length c0):Value).ownBlock∧some k_ ≠ ((.slice c5 O.length c6):Value).ownBlock∧k_ ≠ T) p3 b0)∧Aside0 (wc.heap[T]?=some (.cells #[.int .i64 a0,.int .i64 a1,(.slice d8 a2.length d9),(.slice e0 a3.length e1),(.slice e5 a4.length e6)] 25 (0,0)))∧Aside0 (Below w.heap.size w wc));case first =>have H:=q6.1;clear q6;by_cases c28:a9=3;(· rw [if_pos c28] at H;have c28b0:(a9 == 3)=true:=beq_iff_eq.mpr c28;have c28b1:(a9 != 3)=false:=bne_eq_false_iff_eq.mpr c28;clear c28;(first|rw [c28b0]|(simp only [i64_w,i32_w];rw [c28b0])|skip);have H':=mk0 H;clear H;go_wp2;go_meet;case rel=>exact ⟨_,(false),(by first|rfl|(simp;done)|(simp [*];done)),H',⟨by have:=l4.1;first|omega|exact Nat.le_refl _⟩,⟨by (with_reducible repeat (first|apply Kd.N_alloc|apply Kd.N_drewN|apply Kd.N_drew));exact J.1⟩,⟨by (with_reducible repeat (first|apply Kd.N_alloc|apply Kd.N_drewN|apply Kd.N_drew));exact L.1⟩,⟨by (with_reducible repeat (first|apply Kd.V_alloc|apply Kd.V_drewN|apply Kd.V_drew));exact r6.1⟩,⟨by exact B.1⟩,⟨by repeat (first|(with_reducible first|exact U.1|apply below_alloc|apply pw_below_drewN|apply below_drew1|refine below_set ?_ b8.1)|exact U.1)⟩⟩);· rw [if_neg c28] at H;have c28b0:(a9 == 3)=false:=beq_eq_false_iff_ne.mpr c28;have c28b1:(a9 != 3)=true:=bne_iff_ne.mpr c28;(first|rw [c28b0]|(simp only [i64_w,i32_w];rw [c28b0])|skip);replace H:=Option.bind_eq_some_iff.mp H;obtain ⟨p1,u9,H⟩:=H;(try dsimp only at H);have D5:=mk0 u9;clear u9;have H':=mk0 H;clear H;have i7:=q0_ B;have i8:=q1_ B;have i9:=q2_ B;have j3:=q3_ B;have j4:=((blk_cell B.1 4).trans rfl);have j5:=blk_frozen B.1 0;have j6:=blk_frozen B.1 1;have j7:=blk_frozen B.1 2;have j8:=blk_frozen B.1 3;have j9:=blk_frozen B.1 4;go_wp2_with (first|(go_at_call 20;(with_reducible refine (bellpullref01_In.calls a1 0 20 p1 _ D5.1).mono ?_);rintro e w' ⟨rfl,⟨nd,rfl⟩⟩));go_meet;case rel=>exact ⟨_,(!p1),(by first|rfl|(simp;done)|(simp [*];done)),H',⟨by have:=l4.1;first|omega|exact Nat.le_refl _⟩,⟨by (with_reducible repeat (first|apply Kd.N_alloc|apply Kd.N_drewN|apply Kd.N_drew));exact J.1⟩,⟨by (with_reducible repeat (first|apply Kd.N_alloc|apply Kd.N_drewN|apply Kd.N_drew));exact L.1⟩,⟨by (with_reducible repeat (first|apply Kd.V_alloc|apply Kd.V_drewN|apply Kd.V_drew));exact r6.1⟩,⟨by exact B.1⟩,⟨by repeat (first|(with_reducible first|exact U.1|apply below_alloc|apply pw_below_drewN|apply below_drew1|refine below_set ?_ b8.1)|exact U.1)⟩⟩
    case rest =>
     (clear q6;try clear c1);(try clear c2);(try clear p2);(try clear c4);(try clear c13);(try clear c17);(try clear c17b0);(try clear c17b1);(try clear m0);(try clear n2);(try clear c22);(try clear c28);(try clear c28b0);(try clear c28b1);(try clear g1);(try clear g2);(try clear g3);(try clear g4);(try clear g5);(try clear h7);(try clear h8);(try clear h9);(try clear i0);(try clear i1);(try clear i7);(try clear i8);(try clear i9);(try clear j3);(try clear j4);(try clear g6);(try clear g7);(try clear g8);(try clear g9);(try clear h0);(try clear i2);(try clear i3);(try clear i4);(try clear i5);(try clear i6);(try clear j5);(try clear j6);(try clear j7);(try clear j8);(try clear j9);try clear p2
     obtain ⟨kq,m1,rfl,HA,h6,J,L,R,B,U⟩:=hcut;cases kq with
     | zero=>exact absurd HA.1 (by simp [bellpulllaw05_CountDiffers.j1])
     | succ kj24 =>
      have H:=HA.1;clear HA;simp only [bellpulllaw05_CountDiffers.j1] at H;have q7:=mk0 H;clear H;go_upto_if 51 with (fail);go_cut [5] (fun v5 wc=>∃ (kq:Nat) (f1:Int),v5=.int .i64 f1∧Aside0 (bellpulllaw05_CountDiffers.j2 kq M O f1 b0 b1 a0 a1 a2 a3 a4=some r)∧Aside0 (kq ≤ kj24)∧Aside0 (Kd.N k60 60 wc w.heap.size (fun k_=>some k_ ≠ ((.slice c5 O.length c6):Value).ownBlock∧k_ ≠ T) (.slice b9 M.length c0) M)∧Aside0 (Kd.N k60 60 wc w.heap.size (fun k_=>some k_ ≠ ((.slice b9 M.length c0):Value).ownBlock∧k_ ≠ T) (.slice c5 O.length c6) O)∧Aside0 (Kd.V (Kd.int .i64) 3 wc w.heap.size (fun k_=>some k_ ≠ ((.slice b9 M.length c0):Value).ownBlock∧some k_ ≠ ((.slice c5 O.length c6):Value).ownBlock∧k_ ≠ T) p3 b0)∧Aside0 (wc.heap[T]?=some (.cells #[.int .i64 a0,.int .i64 a1,(.slice d8 a2.length d9),(.slice e0 a3.length e1),(.slice e5 a4.length e6)] 25 (0,0)))∧Aside0 (Below w.heap.size w wc));case first =>have H:=q7.1;clear q7;by_cases n7:m1=true;(· (subst n7;have H1:(bellpulllaw05_CountDiffers.j2 kj24 M O 1 b0 b1 a0 a1 a2 a3 a4)=some r:=by rw [if_pos rfl] at H;exact H);clear H;have H:=H1;clear H1;have H':=mk0 H;clear H;go_wp2;go_meet;case rel=>exact ⟨_,(1),(by first|rfl|(simp;done)|(simp [*];done)),H',⟨by have:=l4.1;have:=h6.1;first|omega|exact Nat.le_refl _⟩,⟨by (with_reducible repeat (first|apply Kd.N_alloc|apply Kd.N_drewN|apply Kd.N_drew));exact J.1⟩,⟨by (with_reducible repeat (first|apply Kd.N_alloc|apply Kd.N_drewN|apply Kd.N_drew));exact L.1⟩,⟨by (with_reducible repeat (first|apply Kd.V_alloc|apply Kd.V_drewN|apply Kd.V_drew));exact R.1⟩,⟨by exact B.1⟩,⟨by repeat (first|(with_reducible first|exact U.1|apply below_alloc|apply pw_below_drewN|apply below_drew1|refine below_set ?_ b8.1)|exact U.1)⟩⟩);· (replace n7:=Bool.eq_false_iff.mpr n7;subst n7;have H1:(bellpulllaw05_CountDiffers.j2 kj24 M O a9 b0 b1 a0 a1 a2 a3 a4)=some r:=by rw [if_neg (show ¬ (false=true) by decide)] at H;exact H);clear H;have H:=H1;clear H1;have H':=mk0 H;clear H;go_wp2;go_meet;case rel=>exact ⟨_,(a9),(by first|rfl|(simp;done)|(simp [*];done)),H',⟨by have:=l4.1;have:=h6.1;first|omega|exact Nat.le_refl _⟩,⟨by (with_reducible repeat (first|apply Kd.N_alloc|apply Kd.N_drewN|apply Kd.N_drew));exact J.1⟩,⟨by (with_reducible repeat (first|apply Kd.N_alloc|apply Kd.N_drewN|apply Kd.N_drew));exact L.1⟩,⟨by (with_reducible repeat (first|apply Kd.V_alloc|apply Kd.V_drewN|apply Kd.V_drew));exact R.1⟩,⟨by exact B.1⟩,⟨by repeat (first|(with_reducible first|exact U.1|apply below_alloc|apply pw_below_drewN|apply below_drew1|refine below_set ?_ b8.1)|exact U.1)⟩⟩
      case rest =>
       (clear q7;try clear c1);(try clear c2);(try clear p2);(try clear c3);(try clear c4);(try clear c13);(try clear c17);(try clear c17b0);(try clear c17b1);(try clear m0);(try clear n2);(try clear c22);(try clear c28);(try clear c28b0);(try clear c28b1);(try clear n7);(try clear g1);(try clear g2);(try clear g3);(try clear g4);(try clear g5);(try clear h7);(try clear h8);(try clear h9);(try clear i0);(try clear i1);(try clear i7);(try clear i8);(try clear i9);(try clear j3);(try clear j4);(try clear g6);(try clear g7);(try clear g8);(try clear g9);(try clear h0);(try clear i2);(try clear i3);(try clear i4);(try clear i5);(try clear i6);(try clear j5);(try clear j6);(try clear j7);(try clear j8);(try clear j9);try clear p2
       obtain ⟨kq,f1,rfl,HA,m3,J,L,R,B,U⟩:=hcut;cases kq with
       | zero=>exact absurd HA.1 (by simp [bellpulllaw05_CountDiffers.j2])
       | succ kj30 =>
        have H:=HA.1;clear HA;simp only [bellpulllaw05_CountDiffers.j2] at H;by_cases c33:f1=0
        ·
         rw [if_pos c33] at H;have c33b0:(f1 == 0)=true:=beq_iff_eq.mpr c33;have c33b1:(f1 != 0)=false:=bne_eq_false_iff_eq.mpr c33;clear c33;have H':=mk0 H;clear H;go_wp2;go_loopg [8] kj30 (fun kq v8 w'=>∃ (f2:Int),v8=.int .i64 f2∧Aside0 (bellpulllaw05_CountDiffers.l0 kq M O b0 b1 f2 a0 a1 a2 a3 a4=some r)∧Aside0 (kq ≤ kj30)∧Aside0 (Kd.N k60 60 w' w.heap.size (fun k_=>some k_ ≠ ((.slice c5 O.length c6):Value).ownBlock∧k_ ≠ T) (.slice b9 M.length c0) M)∧Aside0 (Kd.N k60 60 w' w.heap.size (fun k_=>some k_ ≠ ((.slice b9 M.length c0):Value).ownBlock∧k_ ≠ T) (.slice c5 O.length c6) O)∧Aside0 (Kd.V (Kd.int .i64) 3 w' w.heap.size (fun k_=>some k_ ≠ ((.slice b9 M.length c0):Value).ownBlock∧some k_ ≠ ((.slice c5 O.length c6):Value).ownBlock∧k_ ≠ T) p3 b0)∧Aside0 (w'.heap[T]?=some (.cells #[.int .i64 a0,.int .i64 a1,(.slice d8 a2.length d9),(.slice e0 a3.length e1),(.slice e5 a4.length e6)] 25 (0,0)))∧Aside0 (Below w.heap.size w w'));case atStart=>exact ⟨(0),(by first|rfl|(simp;done)|(simp [*];done)),H',⟨Nat.le_refl _⟩,⟨by (with_reducible repeat (first|apply Kd.N_alloc|apply Kd.N_drewN|apply Kd.N_drew));exact J.1⟩,⟨by (with_reducible repeat (first|apply Kd.N_alloc|apply Kd.N_drewN|apply Kd.N_drew));exact L.1⟩,⟨by (with_reducible repeat (first|apply Kd.V_alloc|apply Kd.V_drewN|apply Kd.V_drew));exact R.1⟩,⟨by exact B.1⟩,⟨by repeat (first|(with_reducible first|exact U.1|apply below_alloc|apply pw_below_drewN|apply below_drew1|refine below_set ?_ b8.1)|exact U.1)⟩⟩
         case round =>
          (clear H';try clear c1);(try clear c2);(try clear p2);(try clear c3);(try clear c4);(try clear c13);(try clear c17);(try clear c17b0);(try clear c17b1);(try clear m0);(try clear n2);(try clear c22);(try clear c28);(try clear c28b0);(try clear c28b1);(try clear n7);(try clear c33);(try clear c33b0);(try clear c33b1);(try clear g1);(try clear g2);(try clear g3);(try clear g4);(try clear g5);(try clear h7);(try clear h8);(try clear h9);(try clear i0);(try clear i1);(try clear i7);(try clear i8);(try clear i9);(try clear j3);(try clear j4);(try clear g6);(try clear g7);(try clear g8);(try clear g9);(try clear h0);(try clear i2);(try clear i3);(try clear i4);(try clear i5);(try clear i6);(try clear j5);(try clear j6);(try clear j7);(try clear j8);(try clear j9);try clear p2
          obtain ⟨f2,rfl,HA,o1,J,L,R,B,U⟩:=hrel;cases gk with
          | zero=>exact absurd HA.1 (by simp [bellpulllaw05_CountDiffers.l0])
          | succ k4 =>
           have H:=HA.1;clear HA;simp only [bellpulllaw05_CountDiffers.l0] at H;by_cases c34:f2 ≤ a1
           ·
            rw [if_pos c34] at H;have c34b0:decide (f2 ≤ a1)=true:=decide_eq_true c34;clear c34;replace H:=Option.bind_eq_some_iff.mp H;obtain ⟨Q,v0,H⟩:=H;(try dsimp only at H);have D6:=mk0 v0;clear v0;have H':=mk0 H;clear H;have s8:=q0_ B;have s9:=q1_ B;have t0:=q2_ B;have t1:=q3_ B;have t2:=((blk_cell B.1 4).trans rfl);have t3:=blk_frozen B.1 0;have t4:=blk_frozen B.1 1;have t5:=blk_frozen B.1 2;have t6:=blk_frozen B.1 3;have t7:=blk_frozen B.1 4;go_wp2_with (first|((with_reducible refine gate_callee (f:=37) rfl ?_);refine goesL_ (some 74) rfl rfl Try.func37 (by kernel_rfl) rfl #[.int .i64 a0,.int .i64 f2] rfl (by (try simp only [m0_,m1_,m2_]);first|done|rfl|(simp only [l0_,l1_];rfl)) ?_;(with_reducible refine (bellpullref05_All.calls k4 a0 f2 Q _ D6.1).mono ?_);rintro e I0 ⟨p4,rfl,e2,hb⟩;refine ⟨_,rfl,?_⟩;have y5:=mk0 (Kd.N_lower (Kd.N_mono (ok':=fun k_=>some k_ ≠ (.slice b9 M.length c0:Value).ownBlock∧some k_ ≠ (.slice c5 O.length c6:Value).ownBlock∧k_ ≠ T) e2 (fun k_ hk_=>⟨(Kd.fresh' (Kd.N_lt J.1) k_ hk_),(Kd.fresh' (Kd.N_lt L.1) k_ hk_),(Kd.freshB (g:=T) (o:=.cells #[.int .i64 a0,.int .i64 a1,.slice d8 a2.length d9,.slice e0 a3.length e1,.slice e5 a4.length e6] 25 (0,0)) B.1 k_ hk_)⟩)) (below_size U.1));replace J:=mk0 (Kd.N_elder' J.1 (by first|exact Kd.N_base e2|exact Kd.S_base e2|exact Kd.R_base e2) hb);replace L:=mk0 (Kd.N_elder' L.1 (by first|exact Kd.N_base e2|exact Kd.S_base e2|exact Kd.R_base e2) hb);replace R:=mk0 (Kd.V_elder' R.1 (by first|exact Kd.N_base e2|exact Kd.S_base e2|exact Kd.R_base e2) hb);replace B:=bkb B hb;replace U:=bst U hb;(try clear hb);(try clear e2)));go_loopg [10] k4 (fun kq D7 w'=>∃ (D:Int),D7=.int .i64 D∧Aside0 (bellpulllaw05_CountDiffers.l1 kq M O b0 b1 f2 Q D a0 a1 a2 a3 a4=some r)∧Aside0 (kq ≤ k4)∧Aside0 (Kd.N k60 60 w' w.heap.size (fun k_=>some k_ ≠ ((.slice c5 O.length c6):Value).ownBlock∧some k_ ≠ (p4:Value).ownBlock∧k_ ≠ T) (.slice b9 M.length c0) M)∧Aside0 (Kd.N k60 60 w' w.heap.size (fun k_=>some k_ ≠ ((.slice b9 M.length c0):Value).ownBlock∧some k_ ≠ (p4:Value).ownBlock∧k_ ≠ T) (.slice c5 O.length c6) O)∧Aside0 (Kd.V (Kd.int .i64) 3 w' w.heap.size (fun k_=>some k_ ≠ ((.slice b9 M.length c0):Value).ownBlock∧some k_ ≠ ((.slice c5 O.length c6):Value).ownBlock∧some k_ ≠ (p4:Value).ownBlock∧k_ ≠ T) p3 b0)∧Aside0 (Kd.N (Kd.slice 3 (Kd.int .i64)) 23 w' w.heap.size (fun k_=>some k_ ≠ ((.slice b9 M.length c0):Value).ownBlock∧some k_ ≠ ((.slice c5 O.length c6):Value).ownBlock∧k_ ≠ T) p4 Q)∧Aside0 (w'.heap[T]?=some (.cells #[.int .i64 a0,.int .i64 a1,(.slice d8 a2.length d9),(.slice e0 a3.length e1),(.slice e5 a4.length e6)] 25 (0,0)))∧Aside0 (Below w.heap.size w w'));case atStart=>exact ⟨(0),(by first|rfl|(simp;done)|(simp [*];done)),H',⟨Nat.le_refl _⟩,⟨by (with_reducible repeat (first|apply Kd.N_alloc|apply Kd.N_drewN|apply Kd.N_drew));exact Kd.N_mono J.1 (fun _ hk=>⟨hk.1.1,⟨hk.2,hk.1.2⟩⟩)⟩,⟨by (with_reducible repeat (first|apply Kd.N_alloc|apply Kd.N_drewN|apply Kd.N_drew));exact Kd.N_mono L.1 (fun _ hk=>⟨hk.1.1,⟨hk.2,hk.1.2⟩⟩)⟩,⟨by (with_reducible repeat (first|apply Kd.V_alloc|apply Kd.V_drewN|apply Kd.V_drew));exact Kd.V_mono R.1 (fun _ hk=>⟨hk.1.1,⟨hk.1.2.1,⟨hk.2,hk.1.2.2⟩⟩⟩)⟩,⟨by (with_reducible repeat (first|apply Kd.N_alloc|apply Kd.N_drewN|apply Kd.N_drew));exact y5.1⟩,⟨by exact B.1⟩,⟨by repeat (first|(with_reducible first|exact U.1|apply below_alloc|apply pw_below_drewN|apply below_drew1|refine below_set ?_ b8.1)|exact U.1)⟩⟩
            case round =>
             (clear H';try clear c1);(try clear c2);(try clear p2);(try clear c3);(try clear c4);(try clear c13);(try clear c17);(try clear c17b0);(try clear c17b1);(try clear m0);(try clear n2);(try clear c22);(try clear c28);(try clear c28b0);(try clear c28b1);(try clear n7);(try clear c33);(try clear c33b0);(try clear c33b1);(try clear c34);(try clear c34b0);(try clear c37);(try clear g1);(try clear g2);(try clear g3);(try clear g4);(try clear g5);(try clear h7);(try clear h8);(try clear h9);(try clear i0);(try clear i1);(try clear i7);(try clear i8);(try clear i9);(try clear j3);(try clear j4);(try clear s8);(try clear s9);(try clear t0);(try clear t1);(try clear t2);(try clear g6);(try clear g7);(try clear g8);(try clear g9);(try clear h0);(try clear i2);(try clear i3);(try clear i4);(try clear i5);(try clear i6);(try clear j5);(try clear j6);(try clear j7);(try clear j8);(try clear j9);(try clear t3);(try clear t4);(try clear t5);(try clear t6);(try clear t7);try clear p2
             obtain ⟨D,rfl,HA,o2,J,L,R,I,B,U⟩:=hrel;cases gk with
             | zero=>exact absurd HA.1 (by simp [bellpulllaw05_CountDiffers.l1])
             | succ k5 =>have H:=HA.1;clear HA;simp only [bellpulllaw05_CountDiffers.l1] at H;by_cases c38:D < (Q.length:Int);(· rw [if_pos c38] at H;have c38b0:decide (D < (Q.length:Int))=true:=decide_eq_true c38;clear c38;by_cases c39:0 ≤ D;(· rw [if_pos c39] at H;have c39b0:decide (0 ≤ D)=true:=decide_eq_true c39;clear c39;replace H:=Option.bind_eq_some_iff.mp H;obtain ⟨z6,v1,H⟩:=H;(try dsimp only at H);have n6:=mk0 v1;clear v1;replace H:=Option.bind_eq_some_iff.mp H;obtain ⟨p5,v2,H⟩:=H;(try dsimp only at H);have r7:=mk0 v2;clear v2;by_cases r8:z6=true;(· (subst r8;have H1:(if p5=true then (bellpulllaw05_CountDiffers.l1 k5 M O b0 b1 f2 Q (wrap64 (D + 1)) a0 a1 a2 a3 a4) else ((bellpullref01_Same.f k5 b0 (rd_L1 Q D)).bind fun n8=>(if n8=true then (if b1=0 then ((bellpulllaw05_lives.f k5).bind fun l5=>(some l5)) else (none)) else (none))))=some r:=by rw [if_pos rfl] at H;exact H);clear H;have H:=H1;clear H1;by_cases r9:p5=true;(· (subst r9;have H1:(bellpulllaw05_CountDiffers.l1 k5 M O b0 b1 f2 Q (wrap64 (D + 1)) a0 a1 a2 a3 a4)=some r:=by rw [if_pos rfl] at H;exact H);(clear H;have H:=H1;clear H1;have H':=mk0 H;clear H;obtain ⟨G1,G2,z7⟩:=Kd.N_slice I.1;subst z7;try go_wp2);replace J:=mk0 (Kd.N_drew J.1);replace L:=mk0 (Kd.N_drew L.1);replace R:=mk0 (Kd.V_drew R.1);replace I:=mk0 (Kd.N_drew I.1);replace B:=bdr B;replace U:=hdr U;have d4:0 ≤ (D:Int):=of_decide_eq_true (by first|(with_reducible assumption)|assumption);have d5:D < (Q.length:Int):=of_decide_eq_true (by first|(with_reducible assumption)|assumption);obtain ⟨c9,b2,b3,l6,a5,d0,d1⟩:=at_L1 (Kd.N_reads' I.1).2.2 D d4 d5;cases l6;obtain ⟨p6,f6,f7,e3⟩:=Kd.N_get I.1 [] D d4 (by first|exact d5|exact of_decide_eq_true (by first|(with_reducible assumption)|assumption)|(have e_:=(Kd.N_reads' I.1).1;omega));obtain ⟨m4,m5,rfl,b4,b5⟩:=Kd.FK_slice_open f7;have a6:=e3 0 _ rfl;rw [Nat.add_zero,show ((Kd.slice 3 (Kd.int .i64))).sz=1 from rfl,Nat.mul_one] at a6;replace a6:=Option.some.inj (a6.symm.trans a5);injection a6 with hva_ hvn_ hvc_;rw [hva_] at b5;rw [hvc_] at b4;have Y:=mk0 (show Kd.V (Kd.int .i64) 3 _ w.heap.size _ _ (rd_L1 Q D) from Kd.V_mk b4 b5);clear hva_ hvn_ hvc_ b5 b4;clear e3 f6;have E:=mk0 d1;have f3:=mk0 d0;clear d1 d0;replace d4:=eq_true d4;replace d5:=eq_true d5;have d6:0 ≤ (D:Int):=of_decide_eq_true (by first|(with_reducible assumption)|assumption);have d7:D < (Q.length:Int):=of_decide_eq_true (by first|(with_reducible assumption)|assumption);obtain ⟨h3,n9,o0,l7,a7,d2,d3⟩:=at_L1 (Kd.N_reads' I.1).2.2 D d6 d7;obtain rfl:c9=h3:=(by injection l7);obtain ⟨p7,f8,f9,e4⟩:=Kd.N_get I.1 [] D d6 (by first|exact d7|exact of_decide_eq_true (by first|(with_reducible assumption)|assumption)|(have e_:=(Kd.N_reads' I.1).1;omega));obtain ⟨m6,m7,rfl,b6,b7⟩:=Kd.FK_slice_open f9;have a8:=e4 0 _ rfl;rw [Nat.add_zero,show ((Kd.slice 3 (Kd.int .i64))).sz=1 from rfl,Nat.mul_one] at a8;replace a8:=Option.some.inj (a8.symm.trans a7);injection a8 with hva_ hvn_ hvc_;rw [hva_] at b7;rw [hvc_] at b6;have Z:=mk0 (show Kd.V (Kd.int .i64) 3 _ w.heap.size _ _ (rd_L1 Q D) from Kd.V_mk b6 b7);clear hva_ hvn_ hvc_ b7 b6;clear e4 f8;have F:=mk0 d3;have f4:=mk0 d2;clear d3 d2;replace d6:=eq_true d6;replace d7:=eq_true d7;have ea_:=Option.some.inj (a5.symm.trans a7);injection ea_ with ea_ en_ ec_;subst ea_;subst ec_;clear en_;refine start_ (n:=13) (S:=fun w'=>w'.cell? (c9.add (D).toNat)=some (.slice b2 (rd_L1 Q D).length b3)∧w'.cell? (c9.add (D).toNat)=some (.slice b2 (rd_L1 Q D).length b3)) (ds:=[]) #[n_,n_,n_,n_,n_,n_,n_,n_,n_,n_,n_,n_,n_] (by kernel_rfl) rfl rfl ⟨a5,a7⟩ (fun G=>?_);refine with_tabW bellpulllaw05_CountDiffers.tab17 bellpulllaw05_CountDiffers.bits17 (fun X g0=>?_);generalize wr.drew=I1 at J L R I B U Y Z E F a5 a7 G ⊢;refine pure_ (i:=0) (N:=some 81) (v:=?_) (a':=?_) #[y_,n_,n_,n_,n_,n_,n_,n_,n_,n_,n_,n_,n_] rfl rfl (any_of X.1 (by kernel_rfl)) (fun _ _ _ h=>h) (Or.inl ⟨by rfl,?_⟩) ?_ ?_;rotate_left;(· intro w';go_simp;with_reducible rfl);rotate_left;(· simp only [Act.put,s0_,s1_,s2_,i64_w,i32_w];rfl);refine pure_ (i:=1) (N:=some 82) (v:=?_) (a':=?_) #[y_,y_,n_,n_,n_,n_,n_,n_,n_,n_,n_,n_,n_] rfl rfl (any_of X.1 (by kernel_rfl)) (fun _ _ _ h=>h) (Or.inl ⟨by rfl,?_⟩) ?_ ?_;rotate_left;(· intro w';go_simp;with_reducible rfl);rotate_left;(· simp only [Act.put,s0_,s1_,s2_,i64_w,i32_w];rfl);refine pure_ (i:=2) (N:=some 83) (v:=?_) (a':=?_) #[y_,y_,y_,n_,n_,n_,n_,n_,n_,n_,n_,n_,n_] rfl rfl (any_of X.1 (by kernel_rfl)) (fun _ _ _ h=>h) (Or.inl ⟨by rfl,?_⟩) ?_ ?_;rotate_left;(· intro w';go_simp;with_reducible rfl);rotate_left;(· simp only [Act.put,s0_,s1_,s2_,i64_w,i32_w];rfl);refine pure_ (i:=3) (N:=some 84) (v:=?_) (a':=?_) #[y_,y_,y_,y_,n_,n_,n_,n_,n_,n_,n_,n_,n_] rfl rfl (any_of X.1 (by kernel_rfl)) (fun _ _ _ h=>h) (Or.inl ⟨by rfl,?_⟩) ?_ ?_;rotate_left;(· intro w';go_simp;with_reducible rfl);rotate_left;(· simp only [Act.put,s0_,s1_,s2_,i64_w,i32_w];rfl);refine pure_ (i:=6) (N:=some 87) (v:=?_) (a':=?_) #[y_,y_,y_,y_,n_,n_,y_,n_,n_,n_,n_,n_,n_] rfl rfl (any_of X.1 (by kernel_rfl)) (fun _ _ _ h=>h) (Or.inl ⟨by rfl,?_⟩) ?_ ?_;rotate_left;(· intro w';go_simp;with_reducible rfl);rotate_left;(· simp only [Act.put,s0_,s1_,s2_,i64_w,i32_w];rfl);refine pure_ (i:=7) (N:=some 88) (v:=?_) (a':=?_) #[y_,y_,y_,y_,n_,n_,y_,y_,n_,n_,n_,n_,n_] rfl rfl (any_of X.1 (by kernel_rfl)) (fun _ _ _ h=>h) (Or.inl ⟨by rfl,?_⟩) ?_ ?_;rotate_left;(· intro w';go_simp;with_reducible rfl);rotate_left;(· simp only [Act.put,s0_,s1_,s2_,i64_w,i32_w];rfl);refine pure_ (i:=8) (N:=some 89) (v:=?_) (a':=?_) #[y_,y_,y_,y_,n_,n_,y_,y_,y_,n_,n_,n_,n_] rfl rfl (any_of X.1 (by kernel_rfl)) (fun _ _ _ h=>h) (Or.inl ⟨by rfl,?_⟩) ?_ ?_;rotate_left;(· intro w';go_simp;with_reducible rfl);rotate_left;(· simp only [Act.put,s0_,s1_,s2_,i64_w,i32_w];rfl);refine pure_ (i:=9) (N:=some 90) (v:=?_) (a':=?_) #[y_,y_,y_,y_,n_,n_,y_,y_,y_,y_,n_,n_,n_] rfl rfl (any_of X.1 (by kernel_rfl)) (fun _ _ _ h=>h) (Or.inl ⟨by rfl,?_⟩) ?_ ?_;rotate_left;(· intro w';go_simp;with_reducible rfl);rotate_left;(· simp only [Act.put,s0_,s1_,s2_,i64_w,i32_w];rfl);refine take_ (i:=4) (N:=some 85) (v:=?_) (a':=?_) #[y_,y_,y_,y_,y_,n_,y_,y_,y_,y_,n_,n_,n_] rfl rfl (take_ofW X.1 g0.1 (by kernel_rfl)) (fun _ _ _ h=>h) (Or.inl ⟨by rfl,?_⟩) G ?_ ?_;rotate_left;(· rintro w' ⟨s0,s1⟩;go_simp;with_reducible rfl);rotate_left;(· simp only [Act.put,s0_,s1_,s2_,i64_w,i32_w];rfl);refine take_ (i:=10) (N:=some 91) (v:=?_) (a':=?_) #[y_,y_,y_,y_,y_,n_,y_,y_,y_,y_,y_,n_,n_] rfl rfl (take_ofW X.1 g0.1 (by kernel_rfl)) (fun _ _ _ h=>h) (Or.inl ⟨by rfl,?_⟩) G ?_ ?_;rotate_left;(· rintro w' ⟨s0,s1⟩;go_simp;with_reducible rfl);rotate_left;(· simp only [Act.put,s0_,s1_,s2_,i64_w,i32_w];rfl);(refine one_ (i:=5) (N:=some 86) #[y_,y_,y_,y_,y_,y_,y_,y_,y_,y_,y_,n_,n_] rfl rfl (one_of X.1 (by kernel_rfl)) (by decide) (fun K hK=>?_);refine goes_ Try.func24 (by kernel_rfl) rfl #[.slice b9 M.length c0,.slice b2 (rd_L1 Q D).length b3] (by rfl) rfl rfl (by (try simp only [m0_,m1_,m2_]);first|done|rfl|(simp only [l0_,l1_];rfl)) ?_;with_reducible refine (bellpullref05_Has.calls k5 _ _ M _ _ (rd_L1 Q D) true _ ?side1 ?side2 ?side3 ?side4 n6.1).mono ?_);(case side1=>repeat (first|exact (Kd.N_reads' J.1).2.2|(with_reducible refine Kd.C_alloc ?_ _)|(with_reducible refine Kd.C_drewN ?_ _)|(with_reducible refine Kd.C_drew ?_)));(case side2=>exact (Kd.N_reads' J.1).2.1);(case side3=>repeat (first|exact (by repeat (first|(with_reducible exact E.1)|(with_reducible refine Kd.C_alloc ?_ _)|(with_reducible refine Kd.C_drewN ?_ _)|(with_reducible refine Kd.C_drew ?_)|exact E.1))|(with_reducible refine Kd.C_alloc ?_ _)|(with_reducible refine Kd.C_drewN ?_ _)|(with_reducible refine Kd.C_drew ?_)));(case side4=>exact f3.1);rintro e I2 ⟨rfl,hb⟩;have e8:=(hb.cell (World.block_lt_of_cell? _ _ (G.1))).trans (G.1);have e9:=(hb.cell (World.block_lt_of_cell? _ _ (G.2))).trans (G.2);refine ⟨_,rfl,?_⟩;replace J:=mk0 (Kd.N_below J.1 hb);replace L:=mk0 (Kd.N_below L.1 hb);replace R:=mk0 (Kd.V_below R.1 hb);replace I:=mk0 (Kd.N_below I.1 hb);replace Y:=mk0 (Kd.V_below (by (with_reducible repeat (first|apply Kd.V_alloc|apply Kd.V_drewN|apply Kd.V_drew));exact Y.1) hb);replace Z:=mk0 (Kd.V_below (by (with_reducible repeat (first|apply Kd.V_alloc|apply Kd.V_drewN|apply Kd.V_drew));exact Z.1) hb);replace B:=bkb B hb;replace E:=mk0 (Kd.C_below (by repeat (first|(with_reducible exact E.1)|(with_reducible refine Kd.C_alloc ?_ _)|(with_reducible refine Kd.C_drewN ?_ _)|(with_reducible refine Kd.C_drew ?_)|exact E.1)) hb);replace F:=mk0 (Kd.C_below (by repeat (first|(with_reducible exact F.1)|(with_reducible refine Kd.C_alloc ?_ _)|(with_reducible refine Kd.C_drewN ?_ _)|(with_reducible refine Kd.C_drew ?_)|exact F.1)) hb);replace U:=bst U hb;(try clear hb);refine hK.out _ _ ⟨e8,e9⟩ (fun G=>?_);clear hK K;refine norm_ (a':=?_) ?_ ?_;rotate_left;(· show Act.put _ (some 86) _=_;simp only [Act.put,s0_,s1_,s2_,i64_w,i32_w];rfl);(refine one_ (i:=11) (N:=some 92) #[y_,y_,y_,y_,y_,y_,y_,y_,y_,y_,y_,y_,n_] rfl rfl (one_of X.1 (by kernel_rfl)) (by decide) (fun K hK=>?_);refine goes_ Try.func24 (by kernel_rfl) rfl #[.slice c5 O.length c6,.slice b2 (rd_L1 Q D).length b3] (by rfl) rfl rfl (by (try simp only [m0_,m1_,m2_]);first|done|rfl|(simp only [l0_,l1_];rfl)) ?_;with_reducible refine (bellpullref05_Has.calls k5 _ _ O _ _ (rd_L1 Q D) true _ ?side1 ?side2 ?side3 ?side4 r7.1).mono ?_);(case side1=>repeat (first|exact (Kd.N_reads' L.1).2.2|(with_reducible refine Kd.C_alloc ?_ _)|(with_reducible refine Kd.C_drewN ?_ _)|(with_reducible refine Kd.C_drew ?_)));(case side2=>exact (Kd.N_reads' L.1).2.1);(case side3=>repeat (first|exact (by repeat (first|(with_reducible exact F.1)|(with_reducible refine Kd.C_alloc ?_ _)|(with_reducible refine Kd.C_drewN ?_ _)|(with_reducible refine Kd.C_drew ?_)|exact F.1))|(with_reducible refine Kd.C_alloc ?_ _)|(with_reducible refine Kd.C_drewN ?_ _)|(with_reducible refine Kd.C_drew ?_)));(case side4=>exact f4.1);rintro e I3 ⟨rfl,hb⟩;have e8:=(hb.cell (World.block_lt_of_cell? _ _ (G.1))).trans (G.1);have e9:=(hb.cell (World.block_lt_of_cell? _ _ (G.2))).trans (G.2);refine ⟨_,rfl,?_⟩;replace J:=mk0 (Kd.N_below J.1 hb);replace L:=mk0 (Kd.N_below L.1 hb);replace R:=mk0 (Kd.V_below R.1 hb);replace I:=mk0 (Kd.N_below I.1 hb);replace Y:=mk0 (Kd.V_below (by (with_reducible repeat (first|apply Kd.V_alloc|apply Kd.V_drewN|apply Kd.V_drew));exact Y.1) hb);replace Z:=mk0 (Kd.V_below (by (with_reducible repeat (first|apply Kd.V_alloc|apply Kd.V_drewN|apply Kd.V_drew));exact Z.1) hb);replace B:=bkb B hb;replace E:=mk0 (Kd.C_below (by repeat (first|(with_reducible exact E.1)|(with_reducible refine Kd.C_alloc ?_ _)|(with_reducible refine Kd.C_drewN ?_ _)|(with_reducible refine Kd.C_drew ?_)|exact E.1)) hb);replace F:=mk0 (Kd.C_below (by repeat (first|(with_reducible exact F.1)|(with_reducible refine Kd.C_alloc ?_ _)|(with_reducible refine Kd.C_drewN ?_ _)|(with_reducible refine Kd.C_drew ?_)|exact F.1)) hb);replace U:=bst U hb;(try clear hb);refine hK.out _ _ ⟨e8,e9⟩ (fun G=>?_);clear hK K;refine norm_ (a':=?_) ?_ ?_;rotate_left;(· show Act.put _ (some 92) _=_;simp only [Act.put,s0_,s1_,s2_,i64_w,i32_w];rfl);refine pure_ (i:=12) (N:=some 93) (v:=?_) (a':=?_) #[y_,y_,y_,y_,y_,y_,y_,y_,y_,y_,y_,y_,y_] rfl rfl (any_of X.1 (by kernel_rfl)) (fun _ _ _ h=>h) (Or.inl ⟨by rfl,?_⟩) ?_ ?_;rotate_left;(· intro w';go_simp;with_reducible rfl);rotate_left;(· simp only [Act.put,s0_,s1_,s2_,i64_w,i32_w];rfl);(refine done_ (done_of X.1 (by kernel_rfl)) ?_;try go_wp2);go_roundg k5;(case measure=>have:=l4.1;have:=h6.1;have:=m3.1;have:=o1.1;have:=o2.1;omega);case rel=>exact ⟨(wrap64 (D + 1)),(by first|rfl|(simp;done)|(simp [*];done)),H',⟨by have:=l4.1;have:=h6.1;have:=m3.1;have:=o1.1;have:=o2.1;omega⟩,⟨by (with_reducible repeat (first|apply Kd.N_alloc|apply Kd.N_drewN|apply Kd.N_drew));exact J.1⟩,⟨by (with_reducible repeat (first|apply Kd.N_alloc|apply Kd.N_drewN|apply Kd.N_drew));exact L.1⟩,⟨by (with_reducible repeat (first|apply Kd.V_alloc|apply Kd.V_drewN|apply Kd.V_drew));exact R.1⟩,⟨by (with_reducible repeat (first|apply Kd.N_alloc|apply Kd.N_drewN|apply Kd.N_drew));exact I.1⟩,⟨by exact B.1⟩,⟨by repeat (first|(with_reducible first|exact U.1|apply below_alloc|apply pw_below_drewN|apply below_drew1|refine below_set ?_ b8.1)|exact U.1)⟩⟩);· (replace r9:=Bool.eq_false_iff.mpr r9;subst r9;have H1:((bellpullref01_Same.f k5 b0 (rd_L1 Q D)).bind fun n8=>(if n8=true then (if b1=0 then ((bellpulllaw05_lives.f k5).bind fun l5=>(some l5)) else (none)) else (none)))=some r:=by rw [if_neg (show ¬ (false=true) by decide)] at H;exact H);clear H;have H:=H1;clear H1;replace H:=Option.bind_eq_some_iff.mp H;obtain ⟨n8,v3,H⟩:=H;(try dsimp only at H);have D8:=mk0 v3;clear v3;by_cases s5:n8=true;(· (subst s5;have H1:(if b1=0 then ((bellpulllaw05_lives.f k5).bind fun l5=>(some l5)) else (none))=some r:=by rw [if_pos rfl] at H;exact H);clear H;have H:=H1;clear H1;by_cases c50:b1=0;(· (rw [if_pos c50] at H;have c50b0:(b1 == 0)=true:=beq_iff_eq.mpr c50;have c50b1:(b1 != 0)=false:=bne_eq_false_iff_eq.mpr c50;clear c50;replace H:=Option.bind_eq_some_iff.mp H;obtain ⟨l5,v4,H⟩:=H;(try dsimp only at H);have D9:=mk0 v4;clear v4;obtain rfl:=Option.some.inj H;obtain ⟨G3,G4,z8⟩:=Kd.N_slice I.1;subst z8;try go_wp2);replace J:=mk0 (Kd.N_drew J.1);replace L:=mk0 (Kd.N_drew L.1);replace R:=mk0 (Kd.V_drew R.1);replace I:=mk0 (Kd.N_drew I.1);replace B:=bdr B;replace U:=hdr U;have d4:0 ≤ (D:Int):=of_decide_eq_true (by first|(with_reducible assumption)|assumption);have d5:D < (Q.length:Int):=of_decide_eq_true (by first|(with_reducible assumption)|assumption);obtain ⟨c9,b2,b3,l6,a5,d0,d1⟩:=at_L1 (Kd.N_reads' I.1).2.2 D d4 d5;cases l6;obtain ⟨p6,f6,f7,e3⟩:=Kd.N_get I.1 [] D d4 (by first|exact d5|exact of_decide_eq_true (by first|(with_reducible assumption)|assumption)|(have e_:=(Kd.N_reads' I.1).1;omega));obtain ⟨m4,m5,rfl,b4,b5⟩:=Kd.FK_slice_open f7;have a6:=e3 0 _ rfl;rw [Nat.add_zero,show ((Kd.slice 3 (Kd.int .i64))).sz=1 from rfl,Nat.mul_one] at a6;replace a6:=Option.some.inj (a6.symm.trans a5);injection a6 with hva_ hvn_ hvc_;rw [hva_] at b5;rw [hvc_] at b4;have Y:=mk0 (show Kd.V (Kd.int .i64) 3 _ w.heap.size _ _ (rd_L1 Q D) from Kd.V_mk b4 b5);clear hva_ hvn_ hvc_ b5 b4;clear e3 f6;have E:=mk0 d1;have f3:=mk0 d0;clear d1 d0;replace d4:=eq_true d4;replace d5:=eq_true d5;have d6:0 ≤ (D:Int):=of_decide_eq_true (by first|(with_reducible assumption)|assumption);have d7:D < (Q.length:Int):=of_decide_eq_true (by first|(with_reducible assumption)|assumption);obtain ⟨h3,n9,o0,l7,a7,d2,d3⟩:=at_L1 (Kd.N_reads' I.1).2.2 D d6 d7;obtain rfl:c9=h3:=(by injection l7);obtain ⟨p7,f8,f9,e4⟩:=Kd.N_get I.1 [] D d6 (by first|exact d7|exact of_decide_eq_true (by first|(with_reducible assumption)|assumption)|(have e_:=(Kd.N_reads' I.1).1;omega));obtain ⟨m6,m7,rfl,b6,b7⟩:=Kd.FK_slice_open f9;have a8:=e4 0 _ rfl;rw [Nat.add_zero,show ((Kd.slice 3 (Kd.int .i64))).sz=1 from rfl,Nat.mul_one] at a8;replace a8:=Option.some.inj (a8.symm.trans a7);injection a8 with hva_ hvn_ hvc_;rw [hva_] at b7;rw [hvc_] at b6;have Z:=mk0 (show Kd.V (Kd.int .i64) 3 _ w.heap.size _ _ (rd_L1 Q D) from Kd.V_mk b6 b7);clear hva_ hvn_ hvc_ b7 b6;clear e4 f8;have F:=mk0 d3;have f4:=mk0 d2;clear d3 d2;replace d6:=eq_true d6;replace d7:=eq_true d7;have ea_:=Option.some.inj (a5.symm.trans a7);injection ea_ with ea_ en_ ec_;subst ea_;subst ec_;clear en_;refine start_ (n:=13) (S:=fun w'=>w'.cell? (c9.add (D).toNat)=some (.slice b2 (rd_L1 Q D).length b3)∧w'.cell? (c9.add (D).toNat)=some (.slice b2 (rd_L1 Q D).length b3)) (ds:=[]) #[n_,n_,n_,n_,n_,n_,n_,n_,n_,n_,n_,n_,n_] (by kernel_rfl) rfl rfl ⟨a5,a7⟩ (fun G=>?_);refine with_tabW bellpulllaw05_CountDiffers.tab17 bellpulllaw05_CountDiffers.bits17 (fun X g0=>?_);generalize wr.drew=I4 at J L R I B U Y Z E F a5 a7 G ⊢;refine pure_ (i:=0) (N:=some 81) (v:=?_) (a':=?_) #[y_,n_,n_,n_,n_,n_,n_,n_,n_,n_,n_,n_,n_] rfl rfl (any_of X.1 (by kernel_rfl)) (fun _ _ _ h=>h) (Or.inl ⟨by rfl,?_⟩) ?_ ?_;rotate_left;(· intro w';go_simp;with_reducible rfl);rotate_left;(· simp only [Act.put,s0_,s1_,s2_,i64_w,i32_w];rfl);refine pure_ (i:=1) (N:=some 82) (v:=?_) (a':=?_) #[y_,y_,n_,n_,n_,n_,n_,n_,n_,n_,n_,n_,n_] rfl rfl (any_of X.1 (by kernel_rfl)) (fun _ _ _ h=>h) (Or.inl ⟨by rfl,?_⟩) ?_ ?_;rotate_left;(· intro w';go_simp;with_reducible rfl);rotate_left;(· simp only [Act.put,s0_,s1_,s2_,i64_w,i32_w];rfl);refine pure_ (i:=2) (N:=some 83) (v:=?_) (a':=?_) #[y_,y_,y_,n_,n_,n_,n_,n_,n_,n_,n_,n_,n_] rfl rfl (any_of X.1 (by kernel_rfl)) (fun _ _ _ h=>h) (Or.inl ⟨by rfl,?_⟩) ?_ ?_;rotate_left;(· intro w';go_simp;with_reducible rfl);rotate_left;(· simp only [Act.put,s0_,s1_,s2_,i64_w,i32_w];rfl);refine pure_ (i:=3) (N:=some 84) (v:=?_) (a':=?_) #[y_,y_,y_,y_,n_,n_,n_,n_,n_,n_,n_,n_,n_] rfl rfl (any_of X.1 (by kernel_rfl)) (fun _ _ _ h=>h) (Or.inl ⟨by rfl,?_⟩) ?_ ?_;rotate_left;(· intro w';go_simp;with_reducible rfl);rotate_left;(· simp only [Act.put,s0_,s1_,s2_,i64_w,i32_w];rfl);refine pure_ (i:=6) (N:=some 87) (v:=?_) (a':=?_) #[y_,y_,y_,y_,n_,n_,y_,n_,n_,n_,n_,n_,n_] rfl rfl (any_of X.1 (by kernel_rfl)) (fun _ _ _ h=>h) (Or.inl ⟨by rfl,?_⟩) ?_ ?_;rotate_left;(· intro w';go_simp;with_reducible rfl);rotate_left;(· simp only [Act.put,s0_,s1_,s2_,i64_w,i32_w];rfl);refine pure_ (i:=7) (N:=some 88) (v:=?_) (a':=?_) #[y_,y_,y_,y_,n_,n_,y_,y_,n_,n_,n_,n_,n_] rfl rfl (any_of X.1 (by kernel_rfl)) (fun _ _ _ h=>h) (Or.inl ⟨by rfl,?_⟩) ?_ ?_;rotate_left;(· intro w';go_simp;with_reducible rfl);rotate_left;(· simp only [Act.put,s0_,s1_,s2_,i64_w,i32_w];rfl);refine pure_ (i:=8) (N:=some 89) (v:=?_) (a':=?_) #[y_,y_,y_,y_,n_,n_,y_,y_,y_,n_,n_,n_,n_] rfl rfl (any_of X.1 (by kernel_rfl)) (fun _ _ _ h=>h) (Or.inl ⟨by rfl,?_⟩) ?_ ?_;rotate_left;(· intro w';go_simp;with_reducible rfl);rotate_left;(· simp only [Act.put,s0_,s1_,s2_,i64_w,i32_w];rfl);refine pure_ (i:=9) (N:=some 90) (v:=?_) (a':=?_) #[y_,y_,y_,y_,n_,n_,y_,y_,y_,y_,n_,n_,n_] rfl rfl (any_of X.1 (by kernel_rfl)) (fun _ _ _ h=>h) (Or.inl ⟨by rfl,?_⟩) ?_ ?_;rotate_left;(· intro w';go_simp;with_reducible rfl);rotate_left;(· simp only [Act.put,s0_,s1_,s2_,i64_w,i32_w];rfl);refine take_ (i:=4) (N:=some 85) (v:=?_) (a':=?_) #[y_,y_,y_,y_,y_,n_,y_,y_,y_,y_,n_,n_,n_] rfl rfl (take_ofW X.1 g0.1 (by kernel_rfl)) (fun _ _ _ h=>h) (Or.inl ⟨by rfl,?_⟩) G ?_ ?_;rotate_left;(· rintro w' ⟨s0,s1⟩;go_simp;with_reducible rfl);rotate_left;(· simp only [Act.put,s0_,s1_,s2_,i64_w,i32_w];rfl);refine take_ (i:=10) (N:=some 91) (v:=?_) (a':=?_) #[y_,y_,y_,y_,y_,n_,y_,y_,y_,y_,y_,n_,n_] rfl rfl (take_ofW X.1 g0.1 (by kernel_rfl)) (fun _ _ _ h=>h) (Or.inl ⟨by rfl,?_⟩) G ?_ ?_;rotate_left;(· rintro w' ⟨s0,s1⟩;go_simp;with_reducible rfl);rotate_left;(· simp only [Act.put,s0_,s1_,s2_,i64_w,i32_w];rfl);(refine one_ (i:=5) (N:=some 86) #[y_,y_,y_,y_,y_,y_,y_,y_,y_,y_,y_,n_,n_] rfl rfl (one_of X.1 (by kernel_rfl)) (by decide) (fun K hK=>?_);refine goes_ Try.func24 (by kernel_rfl) rfl #[.slice b9 M.length c0,.slice b2 (rd_L1 Q D).length b3] (by rfl) rfl rfl (by (try simp only [m0_,m1_,m2_]);first|done|rfl|(simp only [l0_,l1_];rfl)) ?_;with_reducible refine (bellpullref05_Has.calls k5 _ _ M _ _ (rd_L1 Q D) true _ ?side1 ?side2 ?side3 ?side4 n6.1).mono ?_);(case side1=>repeat (first|exact (Kd.N_reads' J.1).2.2|(with_reducible refine Kd.C_alloc ?_ _)|(with_reducible refine Kd.C_drewN ?_ _)|(with_reducible refine Kd.C_drew ?_)));(case side2=>exact (Kd.N_reads' J.1).2.1);(case side3=>repeat (first|exact (by repeat (first|(with_reducible exact E.1)|(with_reducible refine Kd.C_alloc ?_ _)|(with_reducible refine Kd.C_drewN ?_ _)|(with_reducible refine Kd.C_drew ?_)|exact E.1))|(with_reducible refine Kd.C_alloc ?_ _)|(with_reducible refine Kd.C_drewN ?_ _)|(with_reducible refine Kd.C_drew ?_)));(case side4=>exact f3.1);rintro e I5 ⟨rfl,hb⟩;have e8:=(hb.cell (World.block_lt_of_cell? _ _ (G.1))).trans (G.1);have e9:=(hb.cell (World.block_lt_of_cell? _ _ (G.2))).trans (G.2);refine ⟨_,rfl,?_⟩;replace J:=mk0 (Kd.N_below J.1 hb);replace L:=mk0 (Kd.N_below L.1 hb);replace R:=mk0 (Kd.V_below R.1 hb);replace I:=mk0 (Kd.N_below I.1 hb);replace Y:=mk0 (Kd.V_below (by (with_reducible repeat (first|apply Kd.V_alloc|apply Kd.V_drewN|apply Kd.V_drew));exact Y.1) hb);replace Z:=mk0 (Kd.V_below (by (with_reducible repeat (first|apply Kd.V_alloc|apply Kd.V_drewN|apply Kd.V_drew));exact Z.1) hb);replace B:=bkb B hb;replace E:=mk0 (Kd.C_below (by repeat (first|(with_reducible exact E.1)|(with_reducible refine Kd.C_alloc ?_ _)|(with_reducible refine Kd.C_drewN ?_ _)|(with_reducible refine Kd.C_drew ?_)|exact E.1)) hb);replace F:=mk0 (Kd.C_below (by repeat (first|(with_reducible exact F.1)|(with_reducible refine Kd.C_alloc ?_ _)|(with_reducible refine Kd.C_drewN ?_ _)|(with_reducible refine Kd.C_drew ?_)|exact F.1)) hb);replace U:=bst U hb;(try clear hb);refine hK.out _ _ ⟨e8,e9⟩ (fun G=>?_);clear hK K;refine norm_ (a':=?_) ?_ ?_;rotate_left;(· show Act.put _ (some 86) _=_;simp only [Act.put,s0_,s1_,s2_,i64_w,i32_w];rfl);(refine one_ (i:=11) (N:=some 92) #[y_,y_,y_,y_,y_,y_,y_,y_,y_,y_,y_,y_,n_] rfl rfl (one_of X.1 (by kernel_rfl)) (by decide) (fun K hK=>?_);refine goes_ Try.func24 (by kernel_rfl) rfl #[.slice c5 O.length c6,.slice b2 (rd_L1 Q D).length b3] (by rfl) rfl rfl (by (try simp only [m0_,m1_,m2_]);first|done|rfl|(simp only [l0_,l1_];rfl)) ?_;with_reducible refine (bellpullref05_Has.calls k5 _ _ O _ _ (rd_L1 Q D) false _ ?side1 ?side2 ?side3 ?side4 r7.1).mono ?_);(case side1=>repeat (first|exact (Kd.N_reads' L.1).2.2|(with_reducible refine Kd.C_alloc ?_ _)|(with_reducible refine Kd.C_drewN ?_ _)|(with_reducible refine Kd.C_drew ?_)));(case side2=>exact (Kd.N_reads' L.1).2.1);(case side3=>repeat (first|exact (by repeat (first|(with_reducible exact F.1)|(with_reducible refine Kd.C_alloc ?_ _)|(with_reducible refine Kd.C_drewN ?_ _)|(with_reducible refine Kd.C_drew ?_)|exact F.1))|(with_reducible refine Kd.C_alloc ?_ _)|(with_reducible refine Kd.C_drewN ?_ _)|(with_reducible refine Kd.C_drew ?_)));(case side4=>exact f4.1);rintro e I6 ⟨rfl,hb⟩;have e8:=(hb.cell (World.block_lt_of_cell? _ _ (G.1))).trans (G.1);have e9:=(hb.cell (World.block_lt_of_cell? _ _ (G.2))).trans (G.2);refine ⟨_,rfl,?_⟩;replace J:=mk0 (Kd.N_below J.1 hb);replace L:=mk0 (Kd.N_below L.1 hb);replace R:=mk0 (Kd.V_below R.1 hb);replace I:=mk0 (Kd.N_below I.1 hb);replace Y:=mk0 (Kd.V_below (by (with_reducible repeat (first|apply Kd.V_alloc|apply Kd.V_drewN|apply Kd.V_drew));exact Y.1) hb);replace Z:=mk0 (Kd.V_below (by (with_reducible repeat (first|apply Kd.V_alloc|apply Kd.V_drewN|apply Kd.V_drew));exact Z.1) hb);replace B:=bkb B hb;replace E:=mk0 (Kd.C_below (by repeat (first|(with_reducible exact E.1)|(with_reducible refine Kd.C_alloc ?_ _)|(with_reducible refine Kd.C_drewN ?_ _)|(with_reducible refine Kd.C_drew ?_)|exact E.1)) hb);replace F:=mk0 (Kd.C_below (by repeat (first|(with_reducible exact F.1)|(with_reducible refine Kd.C_alloc ?_ _)|(with_reducible refine Kd.C_drewN ?_ _)|(with_reducible refine Kd.C_drew ?_)|exact F.1)) hb);replace U:=bst U hb;(try clear hb);refine hK.out _ _ ⟨e8,e9⟩ (fun G=>?_);clear hK K;refine norm_ (a':=?_) ?_ ?_;rotate_left;(· show Act.put _ (some 92) _=_;simp only [Act.put,s0_,s1_,s2_,i64_w,i32_w];rfl);refine pure_ (i:=12) (N:=some 93) (v:=?_) (a':=?_) #[y_,y_,y_,y_,y_,y_,y_,y_,y_,y_,y_,y_,y_] rfl rfl (any_of X.1 (by kernel_rfl)) (fun _ _ _ h=>h) (Or.inl ⟨by rfl,?_⟩) ?_ ?_;rotate_left;(· intro w';go_simp;with_reducible rfl);rotate_left;(· simp only [Act.put,s0_,s1_,s2_,i64_w,i32_w];rfl);refine done_ (done_of X.1 (by kernel_rfl)) ?_;have p8:0 ≤ (D:Int):=of_decide_eq_true (by first|(with_reducible assumption)|assumption);have p9:D < (Q.length:Int):=of_decide_eq_true (by first|(with_reducible assumption)|assumption);obtain ⟨y6,v6,v7,z9,t8,o3,o4⟩:=at_L1 (Kd.N_reads' I.1).2.2 D p8 p9;obtain rfl:c9=y6:=(by injection z9);(obtain ⟨E6,v9,x0,q2⟩:=Kd.N_get I.1 [] D p8 (by first|exact p9|exact of_decide_eq_true (by first|(with_reducible assumption)|assumption)|(have e_:=(Kd.N_reads' I.1).1;omega));obtain ⟨B7,B8,rfl,m8,m9⟩:=Kd.FK_slice_open x0;have l2:=q2 0 _ rfl;rw [Nat.add_zero,show ((Kd.slice 3 (Kd.int .i64))).sz=1 from rfl,Nat.mul_one] at l2;replace l2:=Option.some.inj (l2.symm.trans t8);injection l2 with hva_ hvn_ hvc_;rw [hva_] at m9;rw [hvc_] at m8;have o5:=mk0 (show Kd.V (Kd.int .i64) 3 _ w.heap.size _ _ (rd_L1 Q D) from Kd.V_mk m8 m9);clear hva_ hvn_ hvc_ m9 m8;clear q2 v9;have h1:=mk0 o4;have t9:=mk0 o3;clear o4 o3;replace p8:=eq_true p8;replace p9:=eq_true p9;obtain ⟨A0,A1,A5⟩:=Kd.V_slice R.1;subst A5;clear t8;go_wp2_with (first|((with_reducible refine gate_callee (f:=44) rfl ?_);refine goesL_ (some 99) rfl rfl Try.func44 (by kernel_rfl) rfl #[.slice A0 b0.length A1,.slice b2 (rd_L1 Q D).length b3] rfl (by (try simp only [m0_,m1_,m2_]);first|done|rfl|(simp only [l0_,l1_];rfl)) ?_;(with_reducible refine (bellpullref01_Same.calls k5 _ _ b0 _ _ (rd_L1 Q D) true _ ?side1 ?side2 ?side3 ?side4 D8.1).mono ?_);(case side1=>repeat (first|exact (Kd.V_reads' R.1).2.2|(with_reducible refine Kd.C_alloc ?_ _)|(with_reducible refine Kd.C_drewN ?_ _)|(with_reducible refine Kd.C_drew ?_)));(case side2=>exact (Kd.V_reads' R.1).2.1);(case side3=>repeat (first|exact E.1|(with_reducible refine Kd.C_alloc ?_ _)|(with_reducible refine Kd.C_drewN ?_ _)|(with_reducible refine Kd.C_drew ?_)));(case side4=>exact f4.1);rintro e w' ⟨rfl,⟨nd,rfl⟩⟩;refine ⟨_,rfl,?_⟩;refine stop_ ?_));delta Stop;go_wp2_with (go_at_call 22;refine stop_ ?_);delta Stop;(with_reducible refine (bellpulllaw05_lives.calls k5 l5 _ D9.1).mono ?_);rintro e Y1 ⟨rfl,hb⟩;replace U:=mk0 (below_step (pw_below_drewN U.1 _) hb);clear J L R I Y Z B E F hb;go_wp2);go_ret;exact ⟨by first|rfl|(simp [errW_none,errW_some] <;> rfl)|(simp [*,errW_none,errW_some] <;> rfl),by repeat (first|(with_reducible first|exact U.1|apply below_alloc|apply pw_below_drewN|apply below_drew1|refine below_set ?_ b8.1)|exact U.1)⟩);· rw [if_neg c50] at H;exact absurd H (by simp));· (replace s5:=Bool.eq_false_iff.mpr s5;subst s5;have H1:(none)=some r:=by rw [if_neg (show ¬ (false=true) by decide)] at H;exact H);clear H;have H:=H1;clear H1;exact absurd H (by simp));· (replace r8:=Bool.eq_false_iff.mpr r8;subst r8;have H1:(if p5=true then ((bellpullref01_Same.f k5 b0 (rd_L1 Q D)).bind fun m2=>(if m2=true then (if b1=0 then ((bellpulllaw05_lives.f k5).bind fun h4=>(some h4)) else (none)) else (none))) else (bellpulllaw05_CountDiffers.l1 k5 M O b0 b1 f2 Q (wrap64 (D + 1)) a0 a1 a2 a3 a4))=some r:=by rw [if_neg (show ¬ (false=true) by decide)] at H;exact H);clear H;have H:=H1;clear H1;by_cases s6:p5=true;(· (subst s6;have H1:((bellpullref01_Same.f k5 b0 (rd_L1 Q D)).bind fun m2=>(if m2=true then (if b1=0 then ((bellpulllaw05_lives.f k5).bind fun h4=>(some h4)) else (none)) else (none)))=some r:=by rw [if_pos rfl] at H;exact H);clear H;have H:=H1;clear H1;replace H:=Option.bind_eq_some_iff.mp H;obtain ⟨m2,x1,H⟩:=H;(try dsimp only at H);have E0:=mk0 x1;clear x1;by_cases s7:m2=true;(· (subst s7;have H1:(if b1=0 then ((bellpulllaw05_lives.f k5).bind fun h4=>(some h4)) else (none))=some r:=by rw [if_pos rfl] at H;exact H);clear H;have H:=H1;clear H1;by_cases c61:b1=0;(· (rw [if_pos c61] at H;have c61b0:(b1 == 0)=true:=beq_iff_eq.mpr c61;have c61b1:(b1 != 0)=false:=bne_eq_false_iff_eq.mpr c61;clear c61;replace H:=Option.bind_eq_some_iff.mp H;obtain ⟨h4,x2,H⟩:=H;(try dsimp only at H);have E1:=mk0 x2;clear x2;obtain rfl:=Option.some.inj H;obtain ⟨G5,G6,A6⟩:=Kd.N_slice I.1;subst A6;try go_wp2);replace J:=mk0 (Kd.N_drew J.1);replace L:=mk0 (Kd.N_drew L.1);replace R:=mk0 (Kd.V_drew R.1);replace I:=mk0 (Kd.N_drew I.1);replace B:=bdr B;replace U:=hdr U;have d4:0 ≤ (D:Int):=of_decide_eq_true (by first|(with_reducible assumption)|assumption);have d5:D < (Q.length:Int):=of_decide_eq_true (by first|(with_reducible assumption)|assumption);obtain ⟨c9,b2,b3,l6,a5,d0,d1⟩:=at_L1 (Kd.N_reads' I.1).2.2 D d4 d5;cases l6;obtain ⟨p6,f6,f7,e3⟩:=Kd.N_get I.1 [] D d4 (by first|exact d5|exact of_decide_eq_true (by first|(with_reducible assumption)|assumption)|(have e_:=(Kd.N_reads' I.1).1;omega));obtain ⟨m4,m5,rfl,b4,b5⟩:=Kd.FK_slice_open f7;have a6:=e3 0 _ rfl;rw [Nat.add_zero,show ((Kd.slice 3 (Kd.int .i64))).sz=1 from rfl,Nat.mul_one] at a6;replace a6:=Option.some.inj (a6.symm.trans a5);injection a6 with hva_ hvn_ hvc_;rw [hva_] at b5;rw [hvc_] at b4;have Y:=mk0 (show Kd.V (Kd.int .i64) 3 _ w.heap.size _ _ (rd_L1 Q D) from Kd.V_mk b4 b5);clear hva_ hvn_ hvc_ b5 b4;clear e3 f6;have E:=mk0 d1;have f3:=mk0 d0;clear d1 d0;replace d4:=eq_true d4;replace d5:=eq_true d5;have d6:0 ≤ (D:Int):=of_decide_eq_true (by first|(with_reducible assumption)|assumption);have d7:D < (Q.length:Int):=of_decide_eq_true (by first|(with_reducible assumption)|assumption);obtain ⟨h3,n9,o0,l7,a7,d2,d3⟩:=at_L1 (Kd.N_reads' I.1).2.2 D d6 d7;obtain rfl:c9=h3:=(by injection l7);obtain ⟨p7,f8,f9,e4⟩:=Kd.N_get I.1 [] D d6 (by first|exact d7|exact of_decide_eq_true (by first|(with_reducible assumption)|assumption)|(have e_:=(Kd.N_reads' I.1).1;omega));obtain ⟨m6,m7,rfl,b6,b7⟩:=Kd.FK_slice_open f9;have a8:=e4 0 _ rfl;rw [Nat.add_zero,show ((Kd.slice 3 (Kd.int .i64))).sz=1 from rfl,Nat.mul_one] at a8;replace a8:=Option.some.inj (a8.symm.trans a7);injection a8 with hva_ hvn_ hvc_;rw [hva_] at b7;rw [hvc_] at b6;have Z:=mk0 (show Kd.V (Kd.int .i64) 3 _ w.heap.size _ _ (rd_L1 Q D) from Kd.V_mk b6 b7);clear hva_ hvn_ hvc_ b7 b6;clear e4 f8;have F:=mk0 d3;have f4:=mk0 d2;clear d3 d2;replace d6:=eq_true d6;replace d7:=eq_true d7;have ea_:=Option.some.inj (a5.symm.trans a7);injection ea_ with ea_ en_ ec_;subst ea_;subst ec_;clear en_;refine start_ (n:=13) (S:=fun w'=>w'.cell? (c9.add (D).toNat)=some (.slice b2 (rd_L1 Q D).length b3)∧w'.cell? (c9.add (D).toNat)=some (.slice b2 (rd_L1 Q D).length b3)) (ds:=[]) #[n_,n_,n_,n_,n_,n_,n_,n_,n_,n_,n_,n_,n_] (by kernel_rfl) rfl rfl ⟨a5,a7⟩ (fun G=>?_);refine with_tabW bellpulllaw05_CountDiffers.tab17 bellpulllaw05_CountDiffers.bits17 (fun X g0=>?_);generalize wr.drew=I8 at J L R I B U Y Z E F a5 a7 G ⊢;refine pure_ (i:=0) (N:=some 81) (v:=?_) (a':=?_) #[y_,n_,n_,n_,n_,n_,n_,n_,n_,n_,n_,n_,n_] rfl rfl (any_of X.1 (by kernel_rfl)) (fun _ _ _ h=>h) (Or.inl ⟨by rfl,?_⟩) ?_ ?_;rotate_left;(· intro w';go_simp;with_reducible rfl);rotate_left;(· simp only [Act.put,s0_,s1_,s2_,i64_w,i32_w];rfl);refine pure_ (i:=1) (N:=some 82) (v:=?_) (a':=?_) #[y_,y_,n_,n_,n_,n_,n_,n_,n_,n_,n_,n_,n_] rfl rfl (any_of X.1 (by kernel_rfl)) (fun _ _ _ h=>h) (Or.inl ⟨by rfl,?_⟩) ?_ ?_;rotate_left;(· intro w';go_simp;with_reducible rfl);rotate_left;(· simp only [Act.put,s0_,s1_,s2_,i64_w,i32_w];rfl);refine pure_ (i:=2) (N:=some 83) (v:=?_) (a':=?_) #[y_,y_,y_,n_,n_,n_,n_,n_,n_,n_,n_,n_,n_] rfl rfl (any_of X.1 (by kernel_rfl)) (fun _ _ _ h=>h) (Or.inl ⟨by rfl,?_⟩) ?_ ?_;rotate_left;(· intro w';go_simp;with_reducible rfl);rotate_left;(· simp only [Act.put,s0_,s1_,s2_,i64_w,i32_w];rfl);refine pure_ (i:=3) (N:=some 84) (v:=?_) (a':=?_) #[y_,y_,y_,y_,n_,n_,n_,n_,n_,n_,n_,n_,n_] rfl rfl (any_of X.1 (by kernel_rfl)) (fun _ _ _ h=>h) (Or.inl ⟨by rfl,?_⟩) ?_ ?_;rotate_left;(· intro w';go_simp;with_reducible rfl);rotate_left;(· simp only [Act.put,s0_,s1_,s2_,i64_w,i32_w];rfl);refine pure_ (i:=6) (N:=some 87) (v:=?_) (a':=?_) #[y_,y_,y_,y_,n_,n_,y_,n_,n_,n_,n_,n_,n_] rfl rfl (any_of X.1 (by kernel_rfl)) (fun _ _ _ h=>h) (Or.inl ⟨by rfl,?_⟩) ?_ ?_;rotate_left;(· intro w';go_simp;with_reducible rfl);rotate_left;(· simp only [Act.put,s0_,s1_,s2_,i64_w,i32_w];rfl);refine pure_ (i:=7) (N:=some 88) (v:=?_) (a':=?_) #[y_,y_,y_,y_,n_,n_,y_,y_,n_,n_,n_,n_,n_] rfl rfl (any_of X.1 (by kernel_rfl)) (fun _ _ _ h=>h) (Or.inl ⟨by rfl,?_⟩) ?_ ?_;rotate_left;(· intro w';go_simp;with_reducible rfl);rotate_left;(· simp only [Act.put,s0_,s1_,s2_,i64_w,i32_w];rfl);refine pure_ (i:=8) (N:=some 89) (v:=?_) (a':=?_) #[y_,y_,y_,y_,n_,n_,y_,y_,y_,n_,n_,n_,n_] rfl rfl (any_of X.1 (by kernel_rfl)) (fun _ _ _ h=>h) (Or.inl ⟨by rfl,?_⟩) ?_ ?_;rotate_left;(· intro w';go_simp;with_reducible rfl);rotate_left;(· simp only [Act.put,s0_,s1_,s2_,i64_w,i32_w];rfl);refine pure_ (i:=9) (N:=some 90) (v:=?_) (a':=?_) #[y_,y_,y_,y_,n_,n_,y_,y_,y_,y_,n_,n_,n_] rfl rfl (any_of X.1 (by kernel_rfl)) (fun _ _ _ h=>h) (Or.inl ⟨by rfl,?_⟩) ?_ ?_;rotate_left;(· intro w';go_simp;with_reducible rfl);rotate_left;(· simp only [Act.put,s0_,s1_,s2_,i64_w,i32_w];rfl);refine take_ (i:=4) (N:=some 85) (v:=?_) (a':=?_) #[y_,y_,y_,y_,y_,n_,y_,y_,y_,y_,n_,n_,n_] rfl rfl (take_ofW X.1 g0.1 (by kernel_rfl)) (fun _ _ _ h=>h) (Or.inl ⟨by rfl,?_⟩) G ?_ ?_;rotate_left;(· rintro w' ⟨s0,s1⟩;go_simp;with_reducible rfl);rotate_left;(· simp only [Act.put,s0_,s1_,s2_,i64_w,i32_w];rfl);refine take_ (i:=10) (N:=some 91) (v:=?_) (a':=?_) #[y_,y_,y_,y_,y_,n_,y_,y_,y_,y_,y_,n_,n_] rfl rfl (take_ofW X.1 g0.1 (by kernel_rfl)) (fun _ _ _ h=>h) (Or.inl ⟨by rfl,?_⟩) G ?_ ?_;rotate_left;(· rintro w' ⟨s0,s1⟩;go_simp;with_reducible rfl);rotate_left;(· simp only [Act.put,s0_,s1_,s2_,i64_w,i32_w];rfl);(refine one_ (i:=5) (N:=some 86) #[y_,y_,y_,y_,y_,y_,y_,y_,y_,y_,y_,n_,n_] rfl rfl (one_of X.1 (by kernel_rfl)) (by decide) (fun K hK=>?_);refine goes_ Try.func24 (by kernel_rfl) rfl #[.slice b9 M.length c0,.slice b2 (rd_L1 Q D).length b3] (by rfl) rfl rfl (by (try simp only [m0_,m1_,m2_]);first|done|rfl|(simp only [l0_,l1_];rfl)) ?_;with_reducible refine (bellpullref05_Has.calls k5 _ _ M _ _ (rd_L1 Q D) false _ ?side1 ?side2 ?side3 ?side4 n6.1).mono ?_);(case side1=>repeat (first|exact (Kd.N_reads' J.1).2.2|(with_reducible refine Kd.C_alloc ?_ _)|(with_reducible refine Kd.C_drewN ?_ _)|(with_reducible refine Kd.C_drew ?_)));(case side2=>exact (Kd.N_reads' J.1).2.1);(case side3=>repeat (first|exact (by repeat (first|(with_reducible exact E.1)|(with_reducible refine Kd.C_alloc ?_ _)|(with_reducible refine Kd.C_drewN ?_ _)|(with_reducible refine Kd.C_drew ?_)|exact E.1))|(with_reducible refine Kd.C_alloc ?_ _)|(with_reducible refine Kd.C_drewN ?_ _)|(with_reducible refine Kd.C_drew ?_)));(case side4=>exact f3.1);rintro e I9 ⟨rfl,hb⟩;have e8:=(hb.cell (World.block_lt_of_cell? _ _ (G.1))).trans (G.1);have e9:=(hb.cell (World.block_lt_of_cell? _ _ (G.2))).trans (G.2);refine ⟨_,rfl,?_⟩;replace J:=mk0 (Kd.N_below J.1 hb);replace L:=mk0 (Kd.N_below L.1 hb);replace R:=mk0 (Kd.V_below R.1 hb);replace I:=mk0 (Kd.N_below I.1 hb);replace Y:=mk0 (Kd.V_below (by (with_reducible repeat (first|apply Kd.V_alloc|apply Kd.V_drewN|apply Kd.V_drew));exact Y.1) hb);replace Z:=mk0 (Kd.V_below (by (with_reducible repeat (first|apply Kd.V_alloc|apply Kd.V_drewN|apply Kd.V_drew));exact Z.1) hb);replace B:=bkb B hb;replace E:=mk0 (Kd.C_below (by repeat (first|(with_reducible exact E.1)|(with_reducible refine Kd.C_alloc ?_ _)|(with_reducible refine Kd.C_drewN ?_ _)|(with_reducible refine Kd.C_drew ?_)|exact E.1)) hb);replace F:=mk0 (Kd.C_below (by repeat (first|(with_reducible exact F.1)|(with_reducible refine Kd.C_alloc ?_ _)|(with_reducible refine Kd.C_drewN ?_ _)|(with_reducible refine Kd.C_drew ?_)|exact F.1)) hb);replace U:=bst U hb;(try clear hb);refine hK.out _ _ ⟨e8,e9⟩ (fun G=>?_);clear hK K;refine norm_ (a':=?_) ?_ ?_;rotate_left;(· show Act.put _ (some 86) _=_;simp only [Act.put,s0_,s1_,s2_,i64_w,i32_w];rfl);(refine one_ (i:=11) (N:=some 92) #[y_,y_,y_,y_,y_,y_,y_,y_,y_,y_,y_,y_,n_] rfl rfl (one_of X.1 (by kernel_rfl)) (by decide) (fun K hK=>?_);refine goes_ Try.func24 (by kernel_rfl) rfl #[.slice c5 O.length c6,.slice b2 (rd_L1 Q D).length b3] (by rfl) rfl rfl (by (try simp only [m0_,m1_,m2_]);first|done|rfl|(simp only [l0_,l1_];rfl)) ?_;with_reducible refine (bellpullref05_Has.calls k5 _ _ O _ _ (rd_L1 Q D) true _ ?side1 ?side2 ?side3 ?side4 r7.1).mono ?_);(case side1=>repeat (first|exact (Kd.N_reads' L.1).2.2|(with_reducible refine Kd.C_alloc ?_ _)|(with_reducible refine Kd.C_drewN ?_ _)|(with_reducible refine Kd.C_drew ?_)));(case side2=>exact (Kd.N_reads' L.1).2.1);(case side3=>repeat (first|exact (by repeat (first|(with_reducible exact F.1)|(with_reducible refine Kd.C_alloc ?_ _)|(with_reducible refine Kd.C_drewN ?_ _)|(with_reducible refine Kd.C_drew ?_)|exact F.1))|(with_reducible refine Kd.C_alloc ?_ _)|(with_reducible refine Kd.C_drewN ?_ _)|(with_reducible refine Kd.C_drew ?_)));(case side4=>exact f4.1);rintro e J0 ⟨rfl,hb⟩;have e8:=(hb.cell (World.block_lt_of_cell? _ _ (G.1))).trans (G.1);have e9:=(hb.cell (World.block_lt_of_cell? _ _ (G.2))).trans (G.2);refine ⟨_,rfl,?_⟩;replace J:=mk0 (Kd.N_below J.1 hb);replace L:=mk0 (Kd.N_below L.1 hb);replace R:=mk0 (Kd.V_below R.1 hb);replace I:=mk0 (Kd.N_below I.1 hb);replace Y:=mk0 (Kd.V_below (by (with_reducible repeat (first|apply Kd.V_alloc|apply Kd.V_drewN|apply Kd.V_drew));exact Y.1) hb);replace Z:=mk0 (Kd.V_below (by (with_reducible repeat (first|apply Kd.V_alloc|apply Kd.V_drewN|apply Kd.V_drew));exact Z.1) hb);replace B:=bkb B hb;replace E:=mk0 (Kd.C_below (by repeat (first|(with_reducible exact E.1)|(with_reducible refine Kd.C_alloc ?_ _)|(with_reducible refine Kd.C_drewN ?_ _)|(with_reducible refine Kd.C_drew ?_)|exact E.1)) hb);replace F:=mk0 (Kd.C_below (by repeat (first|(with_reducible exact F.1)|(with_reducible refine Kd.C_alloc ?_ _)|(with_reducible refine Kd.C_drewN ?_ _)|(with_reducible refine Kd.C_drew ?_)|exact F.1)) hb);replace U:=bst U hb;(try clear hb);refine hK.out _ _ ⟨e8,e9⟩ (fun G=>?_);clear hK K;refine norm_ (a':=?_) ?_ ?_;rotate_left;(· show Act.put _ (some 92) _=_;simp only [Act.put,s0_,s1_,s2_,i64_w,i32_w];rfl);refine pure_ (i:=12) (N:=some 93) (v:=?_) (a':=?_) #[y_,y_,y_,y_,y_,y_,y_,y_,y_,y_,y_,y_,y_] rfl rfl (any_of X.1 (by kernel_rfl)) (fun _ _ _ h=>h) (Or.inl ⟨by rfl,?_⟩) ?_ ?_;rotate_left;(· intro w';go_simp;with_reducible rfl);rotate_left;(· simp only [Act.put,s0_,s1_,s2_,i64_w,i32_w];rfl);refine done_ (done_of X.1 (by kernel_rfl)) ?_;have q0:0 ≤ (D:Int):=of_decide_eq_true (by first|(with_reducible assumption)|assumption);have q1:D < (Q.length:Int):=of_decide_eq_true (by first|(with_reducible assumption)|assumption);obtain ⟨y7,x3,x4,A7,u0,o6,o7⟩:=at_L1 (Kd.N_reads' I.1).2.2 D q0 q1;obtain rfl:c9=y7:=(by injection A7);(obtain ⟨E7,x5,x6,q3⟩:=Kd.N_get I.1 [] D q0 (by first|exact q1|exact of_decide_eq_true (by first|(with_reducible assumption)|assumption)|(have e_:=(Kd.N_reads' I.1).1;omega));obtain ⟨B9,C0,rfl,n0,n1⟩:=Kd.FK_slice_open x6;have l3:=q3 0 _ rfl;rw [Nat.add_zero,show ((Kd.slice 3 (Kd.int .i64))).sz=1 from rfl,Nat.mul_one] at l3;replace l3:=Option.some.inj (l3.symm.trans u0);injection l3 with hva_ hvn_ hvc_;rw [hva_] at n1;rw [hvc_] at n0;have o8:=mk0 (show Kd.V (Kd.int .i64) 3 _ w.heap.size _ _ (rd_L1 Q D) from Kd.V_mk n0 n1);clear hva_ hvn_ hvc_ n1 n0;clear q3 x5;have h2:=mk0 o7;have u1:=mk0 o6;clear o7 o6;replace q0:=eq_true q0;replace q1:=eq_true q1;obtain ⟨A8,A9,B0⟩:=Kd.V_slice R.1;subst B0;clear u0;go_wp2_with (first|((with_reducible refine gate_callee (f:=44) rfl ?_);refine goesL_ (some 99) rfl rfl Try.func44 (by kernel_rfl) rfl #[.slice A8 b0.length A9,.slice b2 (rd_L1 Q D).length b3] rfl (by (try simp only [m0_,m1_,m2_]);first|done|rfl|(simp only [l0_,l1_];rfl)) ?_;(with_reducible refine (bellpullref01_Same.calls k5 _ _ b0 _ _ (rd_L1 Q D) true _ ?side1 ?side2 ?side3 ?side4 E0.1).mono ?_);(case side1=>repeat (first|exact (Kd.V_reads' R.1).2.2|(with_reducible refine Kd.C_alloc ?_ _)|(with_reducible refine Kd.C_drewN ?_ _)|(with_reducible refine Kd.C_drew ?_)));(case side2=>exact (Kd.V_reads' R.1).2.1);(case side3=>repeat (first|exact E.1|(with_reducible refine Kd.C_alloc ?_ _)|(with_reducible refine Kd.C_drewN ?_ _)|(with_reducible refine Kd.C_drew ?_)));(case side4=>exact f4.1);rintro e w' ⟨rfl,⟨nd,rfl⟩⟩;refine ⟨_,rfl,?_⟩;refine stop_ ?_));delta Stop;go_wp2_with (go_at_call 22;refine stop_ ?_);delta Stop;(with_reducible refine (bellpulllaw05_lives.calls k5 h4 _ E1.1).mono ?_);rintro e Y1 ⟨rfl,hb⟩;replace U:=mk0 (below_step (pw_below_drewN U.1 _) hb);clear J L R I Y Z B E F hb;go_wp2);go_ret;exact ⟨by first|rfl|(simp [errW_none,errW_some] <;> rfl)|(simp [*,errW_none,errW_some] <;> rfl),by repeat (first|(with_reducible first|exact U.1|apply below_alloc|apply pw_below_drewN|apply below_drew1|refine below_set ?_ b8.1)|exact U.1)⟩);· rw [if_neg c61] at H;exact absurd H (by simp));· (replace s7:=Bool.eq_false_iff.mpr s7;subst s7;have H1:(none)=some r:=by rw [if_neg (show ¬ (false=true) by decide)] at H;exact H);clear H;have H:=H1;clear H1;exact absurd H (by simp));· (replace s6:=Bool.eq_false_iff.mpr s6;subst s6;have H1:(bellpulllaw05_CountDiffers.l1 k5 M O b0 b1 f2 Q (wrap64 (D + 1)) a0 a1 a2 a3 a4)=some r:=by rw [if_neg (show ¬ (false=true) by decide)] at H;exact H);(clear H;have H:=H1;clear H1;have H':=mk0 H;clear H;obtain ⟨G7,G8,B1⟩:=Kd.N_slice I.1;subst B1;try go_wp2);replace J:=mk0 (Kd.N_drew J.1);replace L:=mk0 (Kd.N_drew L.1);replace R:=mk0 (Kd.V_drew R.1);replace I:=mk0 (Kd.N_drew I.1);replace B:=bdr B;replace U:=hdr U;have d4:0 ≤ (D:Int):=of_decide_eq_true (by first|(with_reducible assumption)|assumption);have d5:D < (Q.length:Int):=of_decide_eq_true (by first|(with_reducible assumption)|assumption);obtain ⟨c9,b2,b3,l6,a5,d0,d1⟩:=at_L1 (Kd.N_reads' I.1).2.2 D d4 d5;cases l6;obtain ⟨p6,f6,f7,e3⟩:=Kd.N_get I.1 [] D d4 (by first|exact d5|exact of_decide_eq_true (by first|(with_reducible assumption)|assumption)|(have e_:=(Kd.N_reads' I.1).1;omega));obtain ⟨m4,m5,rfl,b4,b5⟩:=Kd.FK_slice_open f7;have a6:=e3 0 _ rfl;rw [Nat.add_zero,show ((Kd.slice 3 (Kd.int .i64))).sz=1 from rfl,Nat.mul_one] at a6;replace a6:=Option.some.inj (a6.symm.trans a5);injection a6 with hva_ hvn_ hvc_;rw [hva_] at b5;rw [hvc_] at b4;have Y:=mk0 (show Kd.V (Kd.int .i64) 3 _ w.heap.size _ _ (rd_L1 Q D) from Kd.V_mk b4 b5);clear hva_ hvn_ hvc_ b5 b4;clear e3 f6;have E:=mk0 d1;have f3:=mk0 d0;clear d1 d0;replace d4:=eq_true d4;replace d5:=eq_true d5;have d6:0 ≤ (D:Int):=of_decide_eq_true (by first|(with_reducible assumption)|assumption);have d7:D < (Q.length:Int):=of_decide_eq_true (by first|(with_reducible assumption)|assumption);obtain ⟨h3,n9,o0,l7,a7,d2,d3⟩:=at_L1 (Kd.N_reads' I.1).2.2 D d6 d7;obtain rfl:c9=h3:=(by injection l7);obtain ⟨p7,f8,f9,e4⟩:=Kd.N_get I.1 [] D d6 (by first|exact d7|exact of_decide_eq_true (by first|(with_reducible assumption)|assumption)|(have e_:=(Kd.N_reads' I.1).1;omega));obtain ⟨m6,m7,rfl,b6,b7⟩:=Kd.FK_slice_open f9;have a8:=e4 0 _ rfl;rw [Nat.add_zero,show ((Kd.slice 3 (Kd.int .i64))).sz=1 from rfl,Nat.mul_one] at a8;replace a8:=Option.some.inj (a8.symm.trans a7);injection a8 with hva_ hvn_ hvc_;rw [hva_] at b7;rw [hvc_] at b6;have Z:=mk0 (show Kd.V (Kd.int .i64) 3 _ w.heap.size _ _ (rd_L1 Q D) from Kd.V_mk b6 b7);clear hva_ hvn_ hvc_ b7 b6;clear e4 f8;have F:=mk0 d3;have f4:=mk0 d2;clear d3 d2;replace d6:=eq_true d6;replace d7:=eq_true d7;have ea_:=Option.some.inj (a5.symm.trans a7);injection ea_ with ea_ en_ ec_;subst ea_;subst ec_;clear en_;refine start_ (n:=13) (S:=fun w'=>w'.cell? (c9.add (D).toNat)=some (.slice b2 (rd_L1 Q D).length b3)∧w'.cell? (c9.add (D).toNat)=some (.slice b2 (rd_L1 Q D).length b3)) (ds:=[]) #[n_,n_,n_,n_,n_,n_,n_,n_,n_,n_,n_,n_,n_] (by kernel_rfl) rfl rfl ⟨a5,a7⟩ (fun G=>?_);refine with_tabW bellpulllaw05_CountDiffers.tab17 bellpulllaw05_CountDiffers.bits17 (fun X g0=>?_);generalize wr.drew=J2 at J L R I B U Y Z E F a5 a7 G ⊢;refine pure_ (i:=0) (N:=some 81) (v:=?_) (a':=?_) #[y_,n_,n_,n_,n_,n_,n_,n_,n_,n_,n_,n_,n_] rfl rfl (any_of X.1 (by kernel_rfl)) (fun _ _ _ h=>h) (Or.inl ⟨by rfl,?_⟩) ?_ ?_;rotate_left;(· intro w';go_simp;with_reducible rfl);rotate_left;(· simp only [Act.put,s0_,s1_,s2_,i64_w,i32_w];rfl);refine pure_ (i:=1) (N:=some 82) (v:=?_) (a':=?_) #[y_,y_,n_,n_,n_,n_,n_,n_,n_,n_,n_,n_,n_] rfl rfl (any_of X.1 (by kernel_rfl)) (fun _ _ _ h=>h) (Or.inl ⟨by rfl,?_⟩) ?_ ?_;rotate_left;(· intro w';go_simp;with_reducible rfl);rotate_left;(· simp only [Act.put,s0_,s1_,s2_,i64_w,i32_w];rfl);refine pure_ (i:=2) (N:=some 83) (v:=?_) (a':=?_) #[y_,y_,y_,n_,n_,n_,n_,n_,n_,n_,n_,n_,n_] rfl rfl (any_of X.1 (by kernel_rfl)) (fun _ _ _ h=>h) (Or.inl ⟨by rfl,?_⟩) ?_ ?_;rotate_left;(· intro w';go_simp;with_reducible rfl);rotate_left;(· simp only [Act.put,s0_,s1_,s2_,i64_w,i32_w];rfl);refine pure_ (i:=3) (N:=some 84) (v:=?_) (a':=?_) #[y_,y_,y_,y_,n_,n_,n_,n_,n_,n_,n_,n_,n_] rfl rfl (any_of X.1 (by kernel_rfl)) (fun _ _ _ h=>h) (Or.inl ⟨by rfl,?_⟩) ?_ ?_;rotate_left;(· intro w';go_simp;with_reducible rfl);rotate_left;(· simp only [Act.put,s0_,s1_,s2_,i64_w,i32_w];rfl);refine pure_ (i:=6) (N:=some 87) (v:=?_) (a':=?_) #[y_,y_,y_,y_,n_,n_,y_,n_,n_,n_,n_,n_,n_] rfl rfl (any_of X.1 (by kernel_rfl)) (fun _ _ _ h=>h) (Or.inl ⟨by rfl,?_⟩) ?_ ?_;rotate_left;(· intro w';go_simp;with_reducible rfl);rotate_left;(· simp only [Act.put,s0_,s1_,s2_,i64_w,i32_w];rfl);refine pure_ (i:=7) (N:=some 88) (v:=?_) (a':=?_) #[y_,y_,y_,y_,n_,n_,y_,y_,n_,n_,n_,n_,n_] rfl rfl (any_of X.1 (by kernel_rfl)) (fun _ _ _ h=>h) (Or.inl ⟨by rfl,?_⟩) ?_ ?_;rotate_left;(· intro w';go_simp;with_reducible rfl);rotate_left;(· simp only [Act.put,s0_,s1_,s2_,i64_w,i32_w];rfl);refine pure_ (i:=8) (N:=some 89) (v:=?_) (a':=?_) #[y_,y_,y_,y_,n_,n_,y_,y_,y_,n_,n_,n_,n_] rfl rfl (any_of X.1 (by kernel_rfl)) (fun _ _ _ h=>h) (Or.inl ⟨by rfl,?_⟩) ?_ ?_;rotate_left;(· intro w';go_simp;with_reducible rfl);rotate_left;(· simp only [Act.put,s0_,s1_,s2_,i64_w,i32_w];rfl);refine pure_ (i:=9) (N:=some 90) (v:=?_) (a':=?_) #[y_,y_,y_,y_,n_,n_,y_,y_,y_,y_,n_,n_,n_] rfl rfl (any_of X.1 (by kernel_rfl)) (fun _ _ _ h=>h) (Or.inl ⟨by rfl,?_⟩) ?_ ?_;rotate_left;(· intro w';go_simp;with_reducible rfl);rotate_left;(· simp only [Act.put,s0_,s1_,s2_,i64_w,i32_w];rfl);refine take_ (i:=4) (N:=some 85) (v:=?_) (a':=?_) #[y_,y_,y_,y_,y_,n_,y_,y_,y_,y_,n_,n_,n_] rfl rfl (take_ofW X.1 g0.1 (by kernel_rfl)) (fun _ _ _ h=>h) (Or.inl ⟨by rfl,?_⟩) G ?_ ?_;rotate_left;(· rintro w' ⟨s0,s1⟩;go_simp;with_reducible rfl);rotate_left;(· simp only [Act.put,s0_,s1_,s2_,i64_w,i32_w];rfl);refine take_ (i:=10) (N:=some 91) (v:=?_) (a':=?_) #[y_,y_,y_,y_,y_,n_,y_,y_,y_,y_,y_,n_,n_] rfl rfl (take_ofW X.1 g0.1 (by kernel_rfl)) (fun _ _ _ h=>h) (Or.inl ⟨by rfl,?_⟩) G ?_ ?_;rotate_left;(· rintro w' ⟨s0,s1⟩;go_simp;with_reducible rfl);rotate_left;(· simp only [Act.put,s0_,s1_,s2_,i64_w,i32_w];rfl);(refine one_ (i:=5) (N:=some 86) #[y_,y_,y_,y_,y_,y_,y_,y_,y_,y_,y_,n_,n_] rfl rfl (one_of X.1 (by kernel_rfl)) (by decide) (fun K hK=>?_);refine goes_ Try.func24 (by kernel_rfl) rfl #[.slice b9 M.length c0,.slice b2 (rd_L1 Q D).length b3] (by rfl) rfl rfl (by (try simp only [m0_,m1_,m2_]);first|done|rfl|(simp only [l0_,l1_];rfl)) ?_;with_reducible refine (bellpullref05_Has.calls k5 _ _ M _ _ (rd_L1 Q D) false _ ?side1 ?side2 ?side3 ?side4 n6.1).mono ?_);(case side1=>repeat (first|exact (Kd.N_reads' J.1).2.2|(with_reducible refine Kd.C_alloc ?_ _)|(with_reducible refine Kd.C_drewN ?_ _)|(with_reducible refine Kd.C_drew ?_)));(case side2=>exact (Kd.N_reads' J.1).2.1);(case side3=>repeat (first|exact (by repeat (first|(with_reducible exact E.1)|(with_reducible refine Kd.C_alloc ?_ _)|(with_reducible refine Kd.C_drewN ?_ _)|(with_reducible refine Kd.C_drew ?_)|exact E.1))|(with_reducible refine Kd.C_alloc ?_ _)|(with_reducible refine Kd.C_drewN ?_ _)|(with_reducible refine Kd.C_drew ?_)));(case side4=>exact f3.1);rintro e J3 ⟨rfl,hb⟩;have e8:=(hb.cell (World.block_lt_of_cell? _ _ (G.1))).trans (G.1);have e9:=(hb.cell (World.block_lt_of_cell? _ _ (G.2))).trans (G.2);refine ⟨_,rfl,?_⟩;replace J:=mk0 (Kd.N_below J.1 hb);replace L:=mk0 (Kd.N_below L.1 hb);replace R:=mk0 (Kd.V_below R.1 hb);replace I:=mk0 (Kd.N_below I.1 hb);replace Y:=mk0 (Kd.V_below (by (with_reducible repeat (first|apply Kd.V_alloc|apply Kd.V_drewN|apply Kd.V_drew));exact Y.1) hb);replace Z:=mk0 (Kd.V_below (by (with_reducible repeat (first|apply Kd.V_alloc|apply Kd.V_drewN|apply Kd.V_drew));exact Z.1) hb);replace B:=bkb B hb;replace E:=mk0 (Kd.C_below (by repeat (first|(with_reducible exact E.1)|(with_reducible refine Kd.C_alloc ?_ _)|(with_reducible refine Kd.C_drewN ?_ _)|(with_reducible refine Kd.C_drew ?_)|exact E.1)) hb);replace F:=mk0 (Kd.C_below (by repeat (first|(with_reducible exact F.1)|(with_reducible refine Kd.C_alloc ?_ _)|(with_reducible refine Kd.C_drewN ?_ _)|(with_reducible refine Kd.C_drew ?_)|exact F.1)) hb);replace U:=bst U hb;(try clear hb);refine hK.out _ _ ⟨e8,e9⟩ (fun G=>?_);clear hK K;refine norm_ (a':=?_) ?_ ?_;rotate_left;(· show Act.put _ (some 86) _=_;simp only [Act.put,s0_,s1_,s2_,i64_w,i32_w];rfl);(refine one_ (i:=11) (N:=some 92) #[y_,y_,y_,y_,y_,y_,y_,y_,y_,y_,y_,y_,n_] rfl rfl (one_of X.1 (by kernel_rfl)) (by decide) (fun K hK=>?_);refine goes_ Try.func24 (by kernel_rfl) rfl #[.slice c5 O.length c6,.slice b2 (rd_L1 Q D).length b3] (by rfl) rfl rfl (by (try simp only [m0_,m1_,m2_]);first|done|rfl|(simp only [l0_,l1_];rfl)) ?_;with_reducible refine (bellpullref05_Has.calls k5 _ _ O _ _ (rd_L1 Q D) false _ ?side1 ?side2 ?side3 ?side4 r7.1).mono ?_);(case side1=>repeat (first|exact (Kd.N_reads' L.1).2.2|(with_reducible refine Kd.C_alloc ?_ _)|(with_reducible refine Kd.C_drewN ?_ _)|(with_reducible refine Kd.C_drew ?_)));(case side2=>exact (Kd.N_reads' L.1).2.1);(case side3=>repeat (first|exact (by repeat (first|(with_reducible exact F.1)|(with_reducible refine Kd.C_alloc ?_ _)|(with_reducible refine Kd.C_drewN ?_ _)|(with_reducible refine Kd.C_drew ?_)|exact F.1))|(with_reducible refine Kd.C_alloc ?_ _)|(with_reducible refine Kd.C_drewN ?_ _)|(with_reducible refine Kd.C_drew ?_)));(case side4=>exact f4.1);rintro e J4 ⟨rfl,hb⟩;have e8:=(hb.cell (World.block_lt_of_cell? _ _ (G.1))).trans (G.1);have e9:=(hb.cell (World.block_lt_of_cell? _ _ (G.2))).trans (G.2);refine ⟨_,rfl,?_⟩;replace J:=mk0 (Kd.N_below J.1 hb);replace L:=mk0 (Kd.N_below L.1 hb);replace R:=mk0 (Kd.V_below R.1 hb);replace I:=mk0 (Kd.N_below I.1 hb);replace Y:=mk0 (Kd.V_below (by (with_reducible repeat (first|apply Kd.V_alloc|apply Kd.V_drewN|apply Kd.V_drew));exact Y.1) hb);replace Z:=mk0 (Kd.V_below (by (with_reducible repeat (first|apply Kd.V_alloc|apply Kd.V_drewN|apply Kd.V_drew));exact Z.1) hb);replace B:=bkb B hb;replace E:=mk0 (Kd.C_below (by repeat (first|(with_reducible exact E.1)|(with_reducible refine Kd.C_alloc ?_ _)|(with_reducible refine Kd.C_drewN ?_ _)|(with_reducible refine Kd.C_drew ?_)|exact E.1)) hb);replace F:=mk0 (Kd.C_below (by repeat (first|(with_reducible exact F.1)|(with_reducible refine Kd.C_alloc ?_ _)|(with_reducible refine Kd.C_drewN ?_ _)|(with_reducible refine Kd.C_drew ?_)|exact F.1)) hb);replace U:=bst U hb;(try clear hb);refine hK.out _ _ ⟨e8,e9⟩ (fun G=>?_);clear hK K;refine norm_ (a':=?_) ?_ ?_;rotate_left;(· show Act.put _ (some 92) _=_;simp only [Act.put,s0_,s1_,s2_,i64_w,i32_w];rfl);refine pure_ (i:=12) (N:=some 93) (v:=?_) (a':=?_) #[y_,y_,y_,y_,y_,y_,y_,y_,y_,y_,y_,y_,y_] rfl rfl (any_of X.1 (by kernel_rfl)) (fun _ _ _ h=>h) (Or.inl ⟨by rfl,?_⟩) ?_ ?_;rotate_left;(· intro w';go_simp;with_reducible rfl);rotate_left;(· simp only [Act.put,s0_,s1_,s2_,i64_w,i32_w];rfl);(refine done_ (done_of X.1 (by kernel_rfl)) ?_;try go_wp2);go_roundg k5;(case measure=>have:=l4.1;have:=h6.1;have:=m3.1;have:=o1.1;have:=o2.1;omega);case rel=>exact ⟨(wrap64 (D + 1)),(by first|rfl|(simp;done)|(simp [*];done)),H',⟨by have:=l4.1;have:=h6.1;have:=m3.1;have:=o1.1;have:=o2.1;omega⟩,⟨by (with_reducible repeat (first|apply Kd.N_alloc|apply Kd.N_drewN|apply Kd.N_drew));exact J.1⟩,⟨by (with_reducible repeat (first|apply Kd.N_alloc|apply Kd.N_drewN|apply Kd.N_drew));exact L.1⟩,⟨by (with_reducible repeat (first|apply Kd.V_alloc|apply Kd.V_drewN|apply Kd.V_drew));exact R.1⟩,⟨by (with_reducible repeat (first|apply Kd.N_alloc|apply Kd.N_drewN|apply Kd.N_drew));exact I.1⟩,⟨by exact B.1⟩,⟨by repeat (first|(with_reducible first|exact U.1|apply below_alloc|apply pw_below_drewN|apply below_drew1|refine below_set ?_ b8.1)|exact U.1)⟩⟩);· rw [if_neg c39] at H;exact absurd H (by simp));· rw [if_neg c38] at H;have c38b0:decide (D < (Q.length:Int))=false:=decide_eq_false c38;clear c38;have H':=mk0 H;clear H;obtain ⟨G9,H0,B2⟩:=Kd.N_slice I.1;subst B2;go_wp2;go_roundg k5;(case measure=>have:=l4.1;have:=h6.1;have:=m3.1;have:=o1.1;have:=o2.1;omega);case rel=>exact ⟨(wrap64 (f2 + 1)),(by first|rfl|(simp;done)|(simp [*];done)),H',⟨by have:=l4.1;have:=h6.1;have:=m3.1;have:=o1.1;have:=o2.1;omega⟩,⟨by (with_reducible repeat (first|apply Kd.N_alloc|apply Kd.N_drewN|apply Kd.N_drew));exact Kd.N_mono J.1 (fun _ hk=>⟨hk.1,hk.2.2⟩)⟩,⟨by (with_reducible repeat (first|apply Kd.N_alloc|apply Kd.N_drewN|apply Kd.N_drew));exact Kd.N_mono L.1 (fun _ hk=>⟨hk.1,hk.2.2⟩)⟩,⟨by (with_reducible repeat (first|apply Kd.V_alloc|apply Kd.V_drewN|apply Kd.V_drew));exact Kd.V_mono R.1 (fun _ hk=>⟨hk.1,⟨hk.2.1,hk.2.2.2⟩⟩)⟩,⟨by exact B.1⟩,⟨by repeat (first|(with_reducible first|exact U.1|apply below_alloc|apply pw_below_drewN|apply below_drew1|refine below_set ?_ b8.1)|exact U.1)⟩⟩
           · rw [if_neg c34] at H;have c34b0:decide (f2 ≤ a1)=false:=decide_eq_false c34;clear c34;by_cases c74:(b0.length:Int)=0;(· rw [if_pos c74] at H;have c74b0:((b0.length:Int) == 0)=true:=beq_iff_eq.mpr c74;have c74b1:((b0.length:Int) != 0)=false:=bne_eq_false_iff_eq.mpr c74;clear c74;by_cases c75:b1=5;(· rw [if_pos c75] at H;have c75b0:(b1 == 5)=true:=beq_iff_eq.mpr c75;have c75b1:(b1 != 5)=false:=bne_eq_false_iff_eq.mpr c75;clear c75;replace H:=Option.bind_eq_some_iff.mp H;obtain ⟨B3,x7,H⟩:=H;(try dsimp only at H);have E2:=mk0 x7;clear x7;obtain rfl:=Option.some.inj H;have C1:=q0_ B;have C2:=q1_ B;have C3:=q2_ B;have C4:=q3_ B;have C5:=((blk_cell B.1 4).trans rfl);have C6:=blk_frozen B.1 0;have C7:=blk_frozen B.1 1;have C8:=blk_frozen B.1 2;have C9:=blk_frozen B.1 3;have D0:=blk_frozen B.1 4;obtain ⟨H2,H3,B4⟩:=Kd.V_slice R.1;subst B4;go_wp2_with (first|(go_at_call 22;(with_reducible refine (bellpulllaw05_lives.calls k4  B3 _ E2.1).mono ?_);rintro e J5 ⟨rfl,hb⟩;replace J:=mk0 (Kd.N_below J.1 hb);replace L:=mk0 (Kd.N_below L.1 hb);replace R:=mk0 (Kd.V_below R.1 hb);replace B:=bkb B hb;replace U:=bst U hb;(try clear hb)));go_ret;exact ⟨by first|rfl|(simp [errW_none,errW_some] <;> rfl)|(simp [*,errW_none,errW_some] <;> rfl),by repeat (first|(with_reducible first|exact U.1|apply below_alloc|apply pw_below_drewN|apply below_drew1|refine below_set ?_ b8.1)|exact U.1)⟩);· rw [if_neg c75] at H;exact absurd H (by simp));· rw [if_neg c74] at H;exact absurd H (by simp)
        · rw [if_neg c33] at H;have c33b0:(f1 == 0)=false:=beq_eq_false_iff_ne.mpr c33;have c33b1:(f1 != 0)=true:=bne_iff_ne.mpr c33;by_cases c80:(b0.length:Int)=0;(· rw [if_pos c80] at H;have c80b0:((b0.length:Int) == 0)=true:=beq_iff_eq.mpr c80;have c80b1:((b0.length:Int) != 0)=false:=bne_eq_false_iff_eq.mpr c80;clear c80;by_cases c81:b1=f1;(· rw [if_pos c81] at H;have c81b0:(b1 == f1)=true:=beq_iff_eq.mpr c81;have c81b1:(b1 != f1)=false:=bne_eq_false_iff_eq.mpr c81;clear c81;replace H:=Option.bind_eq_some_iff.mp H;obtain ⟨B5,x8,H⟩:=H;(try dsimp only at H);have E3:=mk0 x8;clear x8;obtain rfl:=Option.some.inj H;obtain ⟨H4,H5,B6⟩:=Kd.V_slice R.1;subst B6;go_wp2_with (first|(go_at_call 22;(with_reducible refine (bellpulllaw05_lives.calls kj30  B5 _ E3.1).mono ?_);rintro e J6 ⟨rfl,hb⟩;replace J:=mk0 (Kd.N_below J.1 hb);replace L:=mk0 (Kd.N_below L.1 hb);replace R:=mk0 (Kd.V_below R.1 hb);replace B:=bkb B hb;replace U:=bst U hb;(try clear hb)));go_ret;exact ⟨by first|rfl|(simp [errW_none,errW_some] <;> rfl)|(simp [*,errW_none,errW_some] <;> rfl),by repeat (first|(with_reducible first|exact U.1|apply below_alloc|apply pw_below_drewN|apply below_drew1|refine below_set ?_ b8.1)|exact U.1)⟩);· rw [if_neg c81] at H;exact absurd H (by simp));· rw [if_neg c80] at H;exact absurd H (by simp)
end Go.Proofs.Ytkonljiembcdlaa.PC
namespace Go.Proofs.Ytkonljiembcdlaa.PC
open Go.Proofs.MyWords Go.RowKit Go.Proofs.YtkonljiembcdlaaW.PrintWords Go.Proofs.YtkonljiembcdlaaW.PrintLast Go.Proofs.YtkonljiembcdlaaW.PrintMore
attribute [local go_sem] max2_int min2_int max_two min_two max_three min_three max_four min_four   -- for this text's walks alone
set_option linter.unusedVariables false
set_option linter.unusedSimpArgs false
attribute [local go_sem] eqGuard_slices eqlnil23 neqnil23 eqlnil58 neqnil58
end Go.Proofs.Ytkonljiembcdlaa.PC
namespace Go.Proofs.Ytkonljiembcdlaa.PC
open Go.Proofs.MyWords Go.RowKit Go.Proofs.YtkonljiembcdlaaW.PrintWords Go.Proofs.YtkonljiembcdlaaW.PrintLast Go.Proofs.YtkonljiembcdlaaW.PrintMore
attribute [local go_sem] max2_int min2_int max_two min_two max_three min_three max_four min_four   -- for this text's walks alone
set_option linter.unusedVariables false
set_option linter.unusedSimpArgs false
attribute [local go_sem] eqGuard_slices eqlnil23 neqnil23 eqlnil58 neqnil58
end Go.Proofs.Ytkonljiembcdlaa.PC
namespace Go.Proofs.Ytkonljiembcdlaa.PC
open Go.Proofs.MyWords Go.RowKit Go.Proofs.YtkonljiembcdlaaW.PrintWords Go.Proofs.YtkonljiembcdlaaW.PrintLast Go.Proofs.YtkonljiembcdlaaW.PrintMore
attribute [local go_sem] max2_int min2_int max_two min_two max_three min_three max_four min_four   -- for this text's walks alone
set_option linter.unusedVariables false
set_option linter.unusedSimpArgs false
attribute [local go_sem] eqGuard_slices eqlnil23 neqnil23 eqlnil58 neqnil58
end Go.Proofs.Ytkonljiembcdlaa.PC
namespace Go.Proofs.Ytkonljiembcdlaa.PC
open Go.Proofs.MyWords Go.RowKit Go.Proofs.YtkonljiembcdlaaW.PrintWords Go.Proofs.YtkonljiembcdlaaW.PrintLast Go.Proofs.YtkonljiembcdlaaW.PrintMore
attribute [local go_sem] max2_int min2_int max_two min_two max_three min_three max_four min_four   -- for this text's walks alone
set_option linter.unusedVariables false
set_option linter.unusedSimpArgs false
attribute [local go_sem] eqGuard_slices eqlnil23 neqnil23 eqlnil58 neqnil58
end Go.Proofs.Ytkonljiembcdlaa.PC
namespace Go.Proofs.Ytkonljiembcdlaa.PC
open Go.Proofs.MyWords Go.RowKit Go.Proofs.YtkonljiembcdlaaW.PrintWords Go.Proofs.YtkonljiembcdlaaW.PrintLast Go.Proofs.YtkonljiembcdlaaW.PrintMore
attribute [local go_sem] max2_int min2_int max_two min_two max_three min_three max_four min_four   -- for this text's walks alone
set_option linter.unusedVariables false
set_option linter.unusedSimpArgs false
attribute [local go_sem] eqGuard_slices eqlnil23 neqnil23 eqlnil58 neqnil58
end Go.Proofs.Ytkonljiembcdlaa.PC
/- Small tools for statements of the form 'with enough rounds the answer is r'. -/
set_option linter.unusedVariables false
set_option linter.unusedSimpArgs false
namespace Go.Proofs.Ytkonljiembcdlaa.Pure
open Go.RowKit Go.Proofs.YtkonljiembcdlaaW.PrintWords
theorem wrap_id {x:Int} (h0:-9223372036854775808 ≤ x) (h1:x ≤ 9223372036854775807):wrap64 x=x:=by
  unfold wrap64;omega
section
variable {α β:Type} {g a b:Nat → Option α} {r:α}
theorem Ev.rounds (h:Ev g r):∃ k,g k=some r:=by
  obtain ⟨K,hK⟩:=h
  exact ⟨K,hK K (Nat.le_refl _)⟩
theorem Ev.succ (h:Ev (fun k=>g (k + 1)) r):Ev g r:=Ev.step (fun _=>rfl) h
theorem Ev.pos {c:Prop} [Decidable c] (hc:c) (h:Ev a r):Ev (fun k=>if c then a k else b k) r:=by
  simpa only [if_pos hc] using h
theorem Ev.neg {c:Prop} [Decidable c] (hc:¬ c) (h:Ev b r):Ev (fun k=>if c then a k else b k) r:=by
  simpa only [if_neg hc] using h
theorem Ev.bindc {o:Option β} {f:Nat → β → Option α} {x:β} (ho:o=some x) (h:Ev (fun k=>f k x) r):Ev (fun k=>o.bind (f k)) r:=by
  subst ho;simpa only [Option.bind_some] using h
theorem Ev.const {o:Option α} (h:o=some r):Ev (fun _=>o) r:=⟨0,fun _ _=>h⟩
end
theorem rd_app (pre:List Int) (x:Int) (t:List Int):rd (pre ++ x :: t) (pre.length:Int)=x:=by
  simp [rd,List.getD_eq_getElem?_getD]
end Go.Proofs.Ytkonljiembcdlaa.Pure
/- Sums of periods, in plain Lean. -/
set_option linter.unusedVariables false
namespace Go.Proofs.Ytkonljiembcdlaa.Sem
abbrev Vec:=List Int
def addV:Vec → Vec → Vec
  | x :: v,y :: w=>(x + y) :: addV v w
  | _,_=>[]
def subV:Vec → Vec → Vec
  | x :: v,y :: w=>(x - y) :: subV v w
  | _,_=>[]
def zeroN (d:Nat):Vec:=List.replicate d 0
def nnV (v:Vec):Prop:=∀ x,x ∈ v → 0 ≤ x
instance (v:Vec):Decidable (nnV v):=by unfold nnV;infer_instance
theorem addV_comm:∀ v w:Vec,addV v w=addV w v
  | [],[]=>rfl
  | [],y :: w=>rfl
  | x :: v,[]=>rfl
  | x :: v,y :: w=>by rw [addV,addV,addV_comm v w,Int.add_comm]
theorem addV_assoc:∀ v w u:Vec,addV (addV v w) u=addV v (addV w u)
  | [],w,u=>by simp [addV]
  | x :: v,[],u=>by simp [addV]
  | x :: v,y :: w,[]=>by simp [addV]
  | x :: v,y :: w,z :: u=>by rw [addV,addV,addV,addV,addV_assoc v w u,Int.add_assoc]
theorem addV_swap (v w u:Vec):addV (addV v w) u=addV (addV v u) w:=by
  rw [addV_assoc,addV_comm w u,← addV_assoc]
theorem addV_len {d:Nat}:∀ {v w:Vec},v.length=d → w.length=d → (addV v w).length=d:=by
  induction d with
  | zero=>intro v w hv hw;rw [List.length_eq_zero_iff.1 hv,List.length_eq_zero_iff.1 hw];rfl
  | succ d ih =>
    intro v w hv hw
    match v,w,hv,hw with
    | x :: v,y :: w,hv,hw=>simp at hv hw;simp [addV,ih hv hw]
theorem subV_len {d:Nat}:∀ {v w:Vec},v.length=d → w.length=d → (subV v w).length=d:=by
  induction d with
  | zero=>intro v w hv hw;rw [List.length_eq_zero_iff.1 hv,List.length_eq_zero_iff.1 hw];rfl
  | succ d ih =>
    intro v w hv hw
    match v,w,hv,hw with
    | x :: v,y :: w,hv,hw=>simp at hv hw;simp [subV,ih hv hw]
theorem zeroN_len (d:Nat):(zeroN d).length=d:=List.length_replicate
theorem zeroN_mem {d:Nat} {x:Int} (h:x ∈ zeroN d):x=0:=List.eq_of_mem_replicate h
theorem zeroN_succ (d:Nat):zeroN (d + 1)=0 :: zeroN d:=rfl
theorem eq_zeroN:∀ {v:Vec} {d:Nat},v.length=d → (∀ x,x ∈ v → x=0) → v=zeroN d
  | v,d,h,hz=>List.eq_replicate_iff.2 ⟨h,hz⟩
theorem addV_zero:∀ {v:Vec} {d:Nat},v.length=d → addV v (zeroN d)=v
  | [],0,_=>rfl
  | x :: v,d + 1,h=>by
    simp at h
    rw [zeroN_succ,addV,addV_zero h,Int.add_zero]
theorem subV_add:∀ {v w:Vec},v.length=w.length → addV (subV v w) w=v
  | [],[],_=>rfl
  | x :: v,y :: w,h=>by
    simp at h
    rw [subV,addV,subV_add h,Int.sub_add_cancel]
theorem addV_sub:∀ {v w:Vec},v.length=w.length → subV (addV v w) w=v
  | [],[],_=>rfl
  | x :: v,y :: w,h=>by
    simp at h
    rw [addV,subV,addV_sub h,Int.add_sub_cancel]
theorem sum_addV:∀ {v w:Vec},v.length=w.length → (addV v w).sum=v.sum + w.sum
  | [],[],_=>rfl
  | x :: v,y :: w,h=>by
    simp at h
    rw [addV,List.sum_cons,List.sum_cons,List.sum_cons,sum_addV h]
    omega
theorem sum_subV {v w:Vec} (h:v.length=w.length):(subV v w).sum=v.sum - w.sum:=by
  have h1:=sum_addV (v:=subV v w) (w:=w) (by rw [subV_len h rfl])
  rw [subV_add h] at h1
  omega
theorem sum_zeroN:∀ d,(zeroN d).sum=0
  | 0=>rfl
  | d + 1=>by rw [zeroN_succ,List.sum_cons,sum_zeroN d];rfl
theorem nn_addV:∀ {v w:Vec},nnV v → nnV w → nnV (addV v w)
  | [],w,_,_=>by intro x hx;simp [addV] at hx
  | x :: v,[],_,_=>by intro x hx;simp [addV] at hx
  | x :: v,y :: w,hv,hw=>by
    intro z hz
    rw [addV] at hz
    rcases List.mem_cons.1 hz with rfl|hz
    · have:=hv x (by simp)
      have:=hw y (by simp)
      omega
    · exact nn_addV (fun a ha=>hv a (by simp [ha])) (fun a ha=>hw a (by simp [ha])) z hz
theorem sum_nn:∀ {v:Vec},nnV v → 0 ≤ v.sum
  | [],_=>by simp
  | x :: v,h=>by
    rw [List.sum_cons]
    have:=h x (by simp)
    have:=sum_nn (v:=v) (fun a ha=>h a (by simp [ha]))
    omega
theorem zero_of_sum:∀ {v:Vec},nnV v → v.sum=0 → ∀ x,x ∈ v → x=0
  | [],_,_=>by simp
  | x :: v,h,hs=>by
    rw [List.sum_cons] at hs
    have h1:=h x (by simp)
    have h2:=sum_nn (v:=v) (fun a ha=>h a (by simp [ha]))
    intro y hy
    rcases List.mem_cons.1 hy with rfl|hy
    · omega
    · exact zero_of_sum (fun a ha=>h a (by simp [ha])) (by omega) y hy
theorem mem_le_sum:∀ {v:Vec},nnV v → ∀ x,x ∈ v → x ≤ v.sum
  | [],_,x,hx=>by simp at hx
  | y :: v,h,x,hx=>by
    rw [List.sum_cons]
    have h1:=h y (by simp)
    have h2:=sum_nn (v:=v) (fun a ha=>h a (by simp [ha]))
    rcases List.mem_cons.1 hx with rfl|hx
    · omega
    · have:=mem_le_sum (v:=v) (fun a ha=>h a (by simp [ha])) x hx
      omega
theorem nn_zeroN (d:Nat):nnV (zeroN d):=fun x hx=>by rw [zeroN_mem hx];decide
inductive Comb (d:Nat) (ps:List Vec):Vec → Prop
  | zero:Comb d ps (zeroN d)
  | add {p w}:p ∈ ps → Comb d ps w → Comb d ps (addV w p)
def okD (d:Nat) (ps:List Vec):Prop:=∀ p,p ∈ ps → p.length=d∧nnV p
section
variable {d:Nat} {ps:List Vec}
theorem Comb.len (hp:okD d ps) {v:Vec} (h:Comb d ps v):v.length=d:=by
  induction h with
  | zero=>exact zeroN_len d
  | add h1 _ ih=>exact addV_len ih (hp _ h1).1
theorem Comb.nn (hp:okD d ps) {v:Vec} (h:Comb d ps v):nnV v:=by
  induction h with
  | zero=>exact nn_zeroN d
  | add h1 _ ih=>exact nn_addV ih (hp _ h1).2
theorem Comb.mono {qs:List Vec} (hs:∀ p,p ∈ ps → p ∈ qs) {v:Vec} (h:Comb d ps v):Comb d qs v:=by
  induction h with
  | zero=>exact .zero
  | add h1 _ ih=>exact .add (hs _ h1) ih
theorem comb_nil {v:Vec}:Comb d [] v ↔ v=zeroN d :=
  ⟨fun h=>by cases h with
    | zero=>rfl
    | add h1 _=>simp at h1,fun h=>h ▸ .zero⟩
theorem comb_cons {p v:Vec}:Comb d (p :: ps) v ↔ Comb d ps v ∨ ∃ w,Comb d (p :: ps) w∧v=addV w p:=by
  constructor
  · intro h
    induction h with
    | zero=>exact .inl .zero
    | @add q w h1 h2 ih =>
      rcases List.mem_cons.1 h1 with rfl|h1
      · exact .inr ⟨w,h2,rfl⟩
      · rcases ih with ih|⟨u,hu,rfl⟩
        · exact .inl (.add h1 ih)
        · exact .inr ⟨addV u q,.add (by simp [h1]) hu,addV_swap _ _ _⟩
  · rintro (h|⟨w,h,rfl⟩)
    · exact h.mono (fun q hq=>by simp [hq])
    · exact .add (by simp) h
theorem comb_sub {p v:Vec} (hp:okD d (p :: ps)) (hv:v.length=d):Comb d (p :: ps) v ↔ Comb d ps v ∨ Comb d (p :: ps) (subV v p):=by
  have hl:v.length=p.length:=hv.trans (hp p (by simp)).1.symm
  rw [comb_cons]
  constructor
  · rintro (h|⟨w,h,rfl⟩)
    · exact .inl h
    · rw [addV_sub ((h.len hp).trans (hp p (by simp)).1.symm)]
      exact .inr h
  · rintro (h|h)
    · exact .inl h
    · exact .inr ⟨_,h,(subV_add hl).symm⟩
theorem comb_skip {p:Vec} (hz:p=zeroN d) (hp:okD d ps) {v:Vec}:Comb d (p :: ps) v ↔ Comb d ps v:=by
  constructor
  · intro h
    induction h with
    | zero=>exact .zero
    | add h1 _ ih =>
      rcases List.mem_cons.1 h1 with rfl|h1
      · rw [hz,addV_zero (ih.len hp)];exact ih
      · exact .add h1 ih
  · exact fun h=>h.mono (fun q hq=>by simp [hq])
theorem comb_filter (hp:okD d ps) (f:Vec → Bool) (hf:∀ p,p ∈ ps → f p=false → p=zeroN d) {v:Vec}:Comb d (ps.filter f) v ↔ Comb d ps v:=by
  constructor
  · exact fun h=>h.mono (fun q hq=>(List.mem_filter.1 hq).1)
  · intro h
    have ho:okD d (ps.filter f):=fun q hq=>hp q (List.mem_filter.1 hq).1
    induction h with
    | zero=>exact .zero
    | @add p w h1 _ ih =>
      cases hb:f p with
      | true=>exact .add (List.mem_filter.2 ⟨h1,hb⟩) ih
      | false=>rw [hf p h1 hb,addV_zero (ih.len ho)];exact ih
end
end Go.Proofs.Ytkonljiembcdlaa.Sem
/- Differences of vectors, and sums of periods, as the program and the reference take them, in plain Lean. -/
set_option linter.unusedVariables false
set_option linter.unusedSimpArgs false
namespace Go.Proofs.Ytkonljiembcdlaa.Pure
open Go.RowKit Go.Proofs.MyWords Go.Proofs.YtkonljiembcdlaaW.PrintWords Go.Proofs.YtkonljiembcdlaaW.PrintLast Go.Proofs.YtkonljiembcdlaaW.PrintMore Go.Proofs.Ytkonljiembcdlaa.PC Go.Proofs.Ytkonljiembcdlaa.Sem
theorem getD_app {α:Type} (pre:List α) (x:α) (t:List α) (d:α):(pre ++ x :: t).getD ((pre.length:Int)).toNat d=x:=by
  simp [List.getD_eq_getElem?_getD]
theorem rdL1_app (pre:List (List Int)) (x:List Int) (t:List (List Int)):rd_L1 (pre ++ x :: t) (pre.length:Int)=x:=getD_app _ _ _ _
theorem rdL4_app (pre:List (List S60)) (x:List S60) (t:List (List S60)):rd_L4 (pre ++ x :: t) (pre.length:Int)=x:=getD_app _ _ _ _
theorem rdT60_app (pre:List S60) (x:S60) (t:List S60):rd_T60 (pre ++ x :: t) (pre.length:Int)=x:=getD_app _ _ _ _
theorem wsucc {n:Nat} (h:n < 4611686018427387904):wrap64 ((n:Int) + 1)=((n + 1:Nat):Int):=by rw [wrap_id (by omega) (by omega)];omega
theorem len_snoc {α:Type} (pre:List α) (x:α):pre.length + 1=(pre ++ [x]).length:=by simp
theorem app_snoc {α:Type} (pre:List α) (x:α) (t:List α):pre ++ x :: t=(pre ++ [x]) ++ t:=by simp
theorem lt_app {α:Type} (pre:List α) (x:α) (t:List α):(pre.length:Int) < ((pre ++ x :: t).length:Int):=by simp;omega
theorem set_app {α:Type} (pre:List α) (x y:α) (t:List α):(pre ++ x :: t).set ((pre.length:Int)).toNat y=pre ++ y :: t:=by simp
def inB (m:Int) (v:List Int):Prop:=∀ x,x ∈ v → 0 ≤ x∧x ≤ m
theorem inB.nn {m:Int} {v:List Int} (h:inB m v):nnV v:=fun x hx=>(h x hx).1
theorem outside_iff (v:List Int) (m:Int):(v.any fun x=>decide (x < 0) || decide (m < x))=true ↔ ¬ inB m v:=by
  rw [List.any_eq_true]
  constructor
  · rintro ⟨x,hx,h⟩ hi
    have:=hi x hx
    simp at h
    omega
  · intro h
    apply Classical.byContradiction
    intro h2
    refine h (fun x hx=>?_)
    apply Classical.byContradiction
    intro h3
    exact h2 ⟨x,hx,by simp;omega⟩
theorem less_go (m:Int):∀ (v2 w2 v1 w1 o1:List Int),v1.length=w1.length → o1.length=v1.length → v2.length=w2.length → inB 1000000 v2 → inB 1000000 w2 → (v1 ++ v2).length < 1000000 →
    Ev (fun k=>count_less.l0 k (v1 ++ v2) (w1 ++ w2) (o1 ++ List.replicate v2.length 0) ((v1 ++ v2).length:Int) (v1.length:Int)) (o1 ++ subV v2 w2,!((o1 ++ subV v2 w2).any fun x=>decide (x < 0) || decide (60 < x)))
  | [],[],v1,w1,o1,h1,h2,h3,b1,b2,hl=>by
    refine Ev.succ ?_
    simp only [count_less.l0]
    refine Ev.neg (by simp) ?_
    refine Ev.bindc (x:=(o1 ++ subV [] []).any fun x=>decide (x < 0) || decide (60 < x)) (by simp [count_outside.f,subV]) ?_
    simp [subV]
    exact Ev.now _
  | x :: v2,y :: w2,v1,w1,o1,h1,h2,h3,b1,b2,hl=>by
    have hlen:(v1 ++ x :: v2).length=v1.length + (v2.length + 1):=by simp
    have ih:=less_go m v2 w2 (v1 ++ [x]) (w1 ++ [y]) (o1 ++ [x - y]) (by simp [h1]) (by simp [h2]) (by simpa using h3) (fun z hz=>b1 z (by simp [hz])) (fun z hz=>b2 z (by simp [hz])) (by simp at hl ⊢;omega)
    have bx:=b1 x (by simp)
    have by':=b2 y (by simp)
    refine Ev.succ ?_
    simp only [count_less.l0]
    refine Ev.pos (by simp;omega) (Ev.pos (by omega) (Ev.pos (by simp;omega) (Ev.pos (by simp;omega) (Ev.pos (by simp;omega) ?_))))
    rw [rd_app v1 x v2,show (v1.length:Int)=(w1.length:Int) by omega,rd_app w1 y w2,← h1,wrap_id (by omega) (by omega),wsucc (by simp at hl;omega)]
    rw [← app_snoc,← app_snoc] at ih
    have e:(o1 ++ List.replicate (x :: v2).length 0).set ((v1.length:Int)).toNat (x - y)=o1 ++ [x - y] ++ List.replicate v2.length 0:=by
      rw [← h2,List.length_cons,List.replicate_succ,set_app];simp
    rw [e,len_snoc v1 x,subV]
    rw [List.append_assoc o1 [x - y] (subV v2 w2)] at ih
    exact ih
theorem less_ev {v w:List Int} (h:v.length=w.length) (hv:inB 1000000 v) (hw:inB 1000000 w) (hl:v.length < 1000000):Ev (fun k=>count_less.f k v w) (subV v w,!((subV v w).any fun x=>decide (x < 0) || decide (60 < x))):=by
  have:=less_go 0 v w [] [] [] rfl rfl h hv hw hl
  simp only [List.nil_append,List.length_nil] at this
  unfold count_less.f
  refine Ev.pos (by omega) (Ev.pos (by omega) ?_)
  rw [Int.toNat_natCast]
  exact this
theorem less_ok {m:Int} {v w:List Int} (h:v.length=w.length) (hv:inB 60 v) (hw:inB 1000000 w) (hl:v.length < 1000000):Ev (fun k=>count_less.f k v w) (subV v w,decide (nnV (subV v w))):=by
  have h1:=less_ev h (fun x hx=>⟨(hv x hx).1,by have:=hv x hx;omega⟩) hw hl
  have le60:∀ (v w:List Int),inB 60 v → nnV w → ∀ x,x ∈ subV v w → x ≤ 60:=fun v=>by
    induction v with
    | nil=>intro w _ _ x hx;simp [subV] at hx
    | cons a v ih =>
      intro w hv hw x hx
      match w,hw,hx with
      | b :: w,hw,hx =>
        rw [subV] at hx
        rcases List.mem_cons.1 hx with rfl|hx
        · have:=hv a (by simp)
          have:=hw b (by simp)
          omega
        · exact ih w (fun z hz=>hv z (by simp [hz])) (fun z hz=>hw z (by simp [hz])) x hx
  have e:(!((subV v w).any fun x=>decide (x < 0) || decide (60 < x)))=decide (nnV (subV v w)):=by
    rw [Bool.eq_iff_iff,decide_eq_true_iff,Bool.not_eq_true',← Bool.not_eq_true,outside_iff]
    constructor
    · intro h x hx
      exact (Classical.byContradiction h x hx).1
    · exact fun h hn=>hn (fun x hx=>⟨h x hx,le60 v w hv hw.nn x hx⟩)
  rw [← e]
  exact h1
theorem refLess_go:∀ (v2 w2 v1 w1 o1:List Int) (ok:Bool),v1.length=w1.length → v2.length=w2.length → inB 1000000 v2 → inB 1000000 w2 → (v1 ++ v2).length < 1000000 → o1.length=v1.length →
    Ev (fun k=>bellpullref05_Less.l0 k (v1 ++ v2) (w1 ++ w2) o1 ok (v1.length:Int)) (o1 ++ subV v2 w2,ok && decide (nnV (subV v2 w2)))
  | [],[],v1,w1,o1,ok,h1,h3,b1,b2,hl,ho=>by
    refine Ev.succ ?_
    simp only [bellpullref05_Less.l0]
    refine Ev.neg (by simp) ?_
    have:decide (nnV (subV [] []))=true:=decide_eq_true (fun x hx=>by simp [subV] at hx)
    rw [this]
    simp [subV]
    exact Ev.now _
  | x :: v2,y :: w2,v1,w1,o1,ok,h1,h3,b1,b2,hl,ho=>by
    have ih:∀ ok:Bool,Ev (fun k=>bellpullref05_Less.l0 k (v1 ++ x :: v2) (w1 ++ y :: w2) (o1 ++ [x - y]) ok ((v1.length + 1:Nat):Int)) (o1 ++ (x - y) :: subV v2 w2,ok && decide (nnV (subV v2 w2))):=fun ok=>by
      have:=refLess_go v2 w2 (v1 ++ [x]) (w1 ++ [y]) (o1 ++ [x - y]) ok (by simp [h1]) (by simpa using h3) (fun z hz=>b1 z (by simp [hz])) (fun z hz=>b2 z (by simp [hz])) (by simp at hl ⊢;omega) (by simp [ho])
      rw [← app_snoc,← app_snoc,← len_snoc,List.append_assoc o1] at this
      exact this
    have bx:=b1 x (by simp)
    have by':=b2 y (by simp)
    have e:decide (nnV (subV (x :: v2) (y :: w2)))=(decide (x ≥ y) && decide (nnV (subV v2 w2))):=by
      rw [Bool.eq_iff_iff,Bool.and_eq_true,decide_eq_true_iff,decide_eq_true_iff,decide_eq_true_iff,subV]
      constructor
      · exact fun h=>⟨by have:=h (x - y) (by simp);omega,fun z hz=>h z (by simp [hz])⟩
      · rintro ⟨h,h2⟩ z hz
        rcases List.mem_cons.1 hz with rfl|hz
        · omega
        · exact h2 z hz
    refine Ev.succ ?_
    simp only [bellpullref05_Less.l0]
    refine Ev.pos (by simp;omega) (Ev.pos (by omega) (Ev.pos (by simp;omega) (Ev.pos (by simp at hl;omega) ?_)))
    rw [rd_app v1 x v2,show (v1.length:Int)=(w1.length:Int) by omega,rd_app w1 y w2,← h1,wrap_id (by omega) (by omega),wsucc (by simp at hl;omega)]
    simp only [Option.bind_some]
    rw [e,subV]
    cases ok with
    | true =>
      refine Ev.pos rfl ?_
      rw [Bool.true_and]
      exact ih _
    | false =>
      refine Ev.neg (by simp) ?_
      rw [Bool.false_and]
      have:=ih false
      rw [Bool.false_and] at this
      exact this
theorem refLess_ev {v w:List Int} (h:v.length=w.length) (hv:inB 1000000 v) (hw:inB 1000000 w) (hl:v.length < 1000000):Ev (fun k=>bellpullref05_Less.f k v w) (subV v w,decide (nnV (subV v w))):=by
  have:=refLess_go v w [] [] [] true rfl h hv hw hl rfl
  simp only [List.nil_append,List.length_nil,Bool.true_and] at this
  exact this
theorem refTotal_go:∀ (v2 v1:List Int) (s:Int),inB 1000000 v2 → 0 ≤ s → s ≤ 1000000 * v1.length → (v1 ++ v2).length < 1000000 → Ev (fun k=>bellpullref05_Total.l0 k (v1 ++ v2) s (v1.length:Int)) (s + v2.sum)
  | [],v1,s,_,h0,h1,hl=>by
    refine Ev.succ ?_
    simp only [bellpullref05_Total.l0]
    refine Ev.neg (by simp) ?_
    simp
    exact Ev.now _
  | x :: v2,v1,s,hb,h0,h1,hl=>by
    have bx:=hb x (by simp)
    have ih:=refTotal_go v2 (v1 ++ [x]) (s + x) (fun z hz=>hb z (by simp [hz])) (by omega) (by simp;omega) (by simp at hl ⊢;omega)
    rw [← app_snoc,← len_snoc] at ih
    refine Ev.succ ?_
    simp only [bellpullref05_Total.l0]
    refine Ev.pos (by simp;omega) (Ev.pos (by omega) ?_)
    have hl2:v1.length < 1000000:=by simp at hl;omega
    rw [rd_app,wrap_id (x:=s + x) (by omega) (by omega),wsucc (by omega),List.sum_cons,← Int.add_assoc]
    exact ih
theorem refTotal_ev {v:List Int} (hv:inB 1000000 v) (hl:v.length < 1000000):Ev (fun k=>bellpullref05_Total.f k v) v.sum:=by
  have:=refTotal_go v [] 0 hv (by omega) (by simp) hl
  simp only [List.nil_append,List.length_nil,Int.zero_add] at this
  exact this
end Go.Proofs.Ytkonljiembcdlaa.Pure
/- Has, of the program and of the reference, in plain Lean. -/
set_option linter.unusedVariables false
set_option linter.unusedSimpArgs false
namespace Go.Proofs.Ytkonljiembcdlaa.Pure
open Go.RowKit Go.Proofs.MyWords Go.Proofs.YtkonljiembcdlaaW.PrintWords Go.Proofs.YtkonljiembcdlaaW.PrintLast Go.Proofs.YtkonljiembcdlaaW.PrintMore Go.Proofs.Ytkonljiembcdlaa.PC Go.Proofs.Ytkonljiembcdlaa.Sem
def okV (d:Nat) (m:Int) (v:List Int):Prop:=v.length=d∧inB m v
theorem okV.mono {d:Nat} {m n:Int} {v:List Int} (h:okV d m v) (hm:m ≤ n):okV d n v:=⟨h.1,fun x hx=>⟨(h.2 x hx).1,by have:=h.2 x hx;omega⟩⟩
def okP (d:Nat) (ps:List (List Int)):Prop:=∀ p,p ∈ ps → okV d 1000000 p
theorem okP.okD {d:Nat} {ps:List (List Int)} (h:okP d ps):okD d ps:=fun p hp=>⟨(h p hp).1,(h p hp).2.nn⟩
theorem okP.tail {d:Nat} {p:List Int} {ps:List (List Int)} (h:okP d (p :: ps)):okP d ps:=fun q hq=>h q (by simp [hq])
theorem sub60 {d:Nat} {v w:List Int} (hv:okV d 60 v) (hw:okV d 1000000 w) (h:nnV (subV v w)):okV d 60 (subV v w):=by
  refine ⟨subV_len hv.1 hw.1,fun x hx=>⟨h x hx,?_⟩⟩
  have:∀ (v w:List Int),inB 60 v → nnV w → ∀ x,x ∈ subV v w → x ≤ 60:=fun v=>by
    induction v with
    | nil=>intro w _ _ x hx;simp [subV] at hx
    | cons a v ih =>
      intro w hv hw x hx
      match w,hw,hx with
      | b :: w,hw,hx =>
        rw [subV] at hx
        rcases List.mem_cons.1 hx with rfl|hx
        · have:=hv a (by simp)
          have:=hw b (by simp)
          omega
        · exact ih w (fun z hz=>hv z (by simp [hz])) (fun z hz=>hw z (by simp [hz])) x hx
  exact this v w hv.2 hw.2.nn x hx
theorem zeroV_iff (v:List Int):zeroV v=true ↔ ∀ x,x ∈ v → x=0:=by
  unfold zeroV
  rw [Bool.not_eq_true',← Bool.not_eq_true,List.any_eq_true]
  constructor
  · intro h x hx
    apply Classical.byContradiction
    intro h2
    exact h ⟨x,hx,by simp [h2]⟩
  · rintro h ⟨x,hx,h2⟩
    rw [h x hx] at h2
    simp at h2
theorem zero_f (v:List Int):count_zero.f v=some (zeroV v):=rfl
theorem pos_of_nz {p:List Int} (hn:nnV p) (h:zeroV p=false):0 < p.sum:=by
  have:=sum_nn hn
  rcases Int.lt_or_eq_of_le this with h1|h1
  · exact h1
  · have:=(zeroV_iff p).2 (zero_of_sum hn h1.symm)
    rw [h] at this
    cases this
theorem made_nil (v:List Int):Ev (fun k=>count_made.f k v []) (zeroV v):=by
  refine Ev.succ ?_
  simp only [count_made.f,zero_f,Option.bind_some]
  cases h:zeroV v with
  | true=>exact Ev.pos rfl (Ev.now _)
  | false=>exact Ev.neg (by simp) (Ev.pos (by simp) (Ev.now _))
theorem made_ev (d:Nat) (hd:d < 1000000):∀ (ps:List (List Int)),okP d ps → (∀ p,p ∈ ps → zeroV p=false) → ∀ v,okV d 60 v → ∃ b,Ev (fun k=>count_made.f k v ps) b∧(b=true ↔ Comb d ps v)
  | [],_,_,v,hv=>⟨_,made_nil v,by
      rw [zeroV_iff,comb_nil]
      exact ⟨eq_zeroN hv.1,fun h x hx=>by rw [h] at hx;exact zeroN_mem hx⟩⟩
  | p :: ps,hp,hz,v,hv=>by
    have IH:=made_ev d hd ps hp.tail (fun q hq=>hz q (by simp [hq]))
    have pp:0 < p.sum:=pos_of_nz (hp p (by simp)).2.nn (hz p (by simp))
    have loop:∀ (n:Nat) (v:List Int),v.sum.toNat < n → okV d 60 v → ∃ b,Ev (fun k=>count_made.l0 k v (p :: ps) true) b∧(b=true ↔ Comb d (p :: ps) v):=fun n=>by
      induction n with
      | zero=>intro v h _;omega
      | succ n ih =>
        intro v hn hv
        have hl:v.length=p.length:=hv.1.trans (hp p (by simp)).1.symm
        have hle:=less_ok (m:=0) hl hv.2 (hp p (by simp)).2 (by rw [hv.1];exact hd)
        obtain ⟨b1,e1,i1⟩:=IH v hv
        have hc:=comb_sub hp.okD (v:=v) hv.1
        cases b1 with
        | true =>
          refine ⟨true,?_,⟨fun _=>hc.2 (.inl (i1.1 rfl)),fun _=>rfl⟩⟩
          refine Ev.succ ?_
          simp only [count_made.l0]
          refine Ev.pos trivial (Ev.pos (by simp <;> omega) (Ev.bind e1 (Ev.pos rfl (Ev.now _))))
        | false =>
          have hno:¬ Comb d ps v:=fun h=>by have:=i1.2 h;cases this
          have rd0:rd_L1 (p :: ps) 0=p:=rfl
          have start:∀ b,Ev (fun k=>count_made.l0 k (subV v p) (p :: ps) (decide (nnV (subV v p)))) b → Ev (fun k=>count_made.l0 k v (p :: ps) true) b:=fun b hb=>by
            refine Ev.succ ?_
            simp only [count_made.l0]
            refine Ev.pos trivial (Ev.pos (by simp <;> omega) (Ev.bind e1 (Ev.neg (by simp) (Ev.pos (by simp <;> omega) ?_))))
            rw [rd0]
            exact Ev.bind hle hb
          by_cases hnn:nnV (subV v p)
          · have hs:=sub60 hv (hp p (by simp)) hnn
            have hsum:=sum_subV hl
            have:=sum_nn hs.2.nn
            have:=sum_nn hv.2.nn
            obtain ⟨b,e2,i2⟩:=ih (subV v p) (by omega) hs
            refine ⟨b,start b (by rw [decide_eq_true hnn];exact e2),?_⟩
            rw [i2,hc]
            exact ⟨.inr,fun h=>h.resolve_left hno⟩
          · refine ⟨false,start false (by rw [decide_eq_false hnn];refine Ev.succ ?_;simp only [count_made.l0];exact Ev.neg (by simp) (Ev.now _)),⟨fun h=>(by cases h),fun h=>?_⟩⟩
            rcases hc.1 h with h|h
            · exact absurd h hno
            · exact absurd (h.nn hp.okD) hnn
    cases hzv:zeroV v with
    | true =>
      have:v=zeroN d:=eq_zeroN hv.1 ((zeroV_iff v).1 hzv)
      refine ⟨true,?_,⟨fun _=>this ▸ .zero,fun _=>rfl⟩⟩
      refine Ev.succ ?_
      simp only [count_made.f,zero_f,Option.bind_some,hzv]
      exact Ev.pos trivial (Ev.now _)
    | false =>
      obtain ⟨b,e,i⟩:=loop (v.sum.toNat + 1) v (by omega) hv
      refine ⟨b,?_,i⟩
      refine Ev.succ ?_
      simp only [count_made.f,zero_f,Option.bind_some,hzv]
      exact Ev.neg (by simp) (Ev.neg (by simp <;> omega) e)
def InL (d:Nat) (b:List Int) (ps:List (List Int)) (v:List Int):Prop:=∃ w,Comb d ps w∧v=addV b w
def InS (d:Nat) (set:List S60) (v:List Int):Prop:=∃ l,l ∈ set∧InL d l.f0 l.f1 v
def okL (d:Nat) (l:S60):Prop:=okV d 1000000 l.f0∧okP d l.f1∧l.f1.length ≤ 1000000
theorem inL_sub {d:Nat} {b:List Int} {ps:List (List Int)} (hb:okV d 1000000 b) (hp:okP d ps) {v:List Int} (hv:v.length=d):InL d b ps v ↔ nnV (subV v b)∧Comb d ps (subV v b):=by
  constructor
  · rintro ⟨w,hw,rfl⟩
    have hl:=hw.len hp.okD
    rw [addV_comm,addV_sub (hl.trans hb.1.symm)]
    exact ⟨hw.nn hp.okD,hw⟩
  · rintro ⟨_,h⟩
    exact ⟨_,h,by rw [addV_comm,subV_add (hv.trans hb.1.symm)]⟩
theorem in_ev {d:Nat} (hd:d < 1000000) {l:S60} (hl:okL d l) {v:List Int} (hv:okV d 60 v):∃ b,Ev (fun k=>count_in.f k l.f0 l.f1 v) b∧(b=true ↔ InL d l.f0 l.f1 v):=by
  obtain ⟨hb,hp,hn⟩:=hl
  have hle:=less_ok (m:=0) (hv.1.trans hb.1.symm) hv.2 hb.2 (by rw [hv.1];exact hd)
  have hi:=inL_sub hb hp hv.1
  have start:∀ b,Ev (fun k=>if decide (nnV (subV v l.f0))=true then count_made.f k (subV v l.f0) (l.f1.filter fun x=>!zeroV x) else some false) b → Ev (fun k=>count_in.f k l.f0 l.f1 v) b:=fun b h=>by
    unfold count_in.f
    exact Ev.pos (by omega) (Ev.bind hle h)
  by_cases hnn:nnV (subV v l.f0)
  · have hz:∀ p,p ∈ (l.f1.filter fun x=>!zeroV x) → zeroV p=false:=fun p h=>by simpa using (List.mem_filter.1 h).2
    obtain ⟨b,e,i⟩:=made_ev d hd (l.f1.filter fun x=>!zeroV x) (fun p h=>hp p (List.mem_filter.1 h).1) hz _ (sub60 hv hb hnn)
    refine ⟨b,start b (Ev.pos (decide_eq_true hnn) e),?_⟩
    rw [i,hi,comb_filter hp.okD (fun x=>!zeroV x) (fun p h hf=>eq_zeroN (hp p h).1 ((zeroV_iff p).1 (by simpa using hf)))]
    exact ⟨fun h=>⟨hnn,h⟩,fun h=>h.2⟩
  · exact ⟨false,start false (Ev.neg (by simpa using hnn) (Ev.now _)),⟨fun h=>(by cases h),fun h=>absurd (hi.1 h).1 hnn⟩⟩
theorem has_go {d:Nat} (hd:d < 1000000) {v:List Int} (hv:okV d 60 v):∀ set:List S60,(∀ l,l ∈ set → okL d l) → ∃ b,Ev (fun k=>count_has.g k v set) b∧(b=true ↔ InS d set v)
  | [],_=>⟨false,Ev.now _,⟨fun h=>(by cases h),fun ⟨l,h,_⟩=>by simp at h⟩⟩
  | l :: set,h=>by
    obtain ⟨b,e,i⟩:=in_ev hd (h l (by simp)) hv
    obtain ⟨c,f,j⟩:=has_go hd hv set (fun x hx=>h x (by simp [hx]))
    refine ⟨b || c,Ev.bind e (Ev.bind f (Ev.now _)),?_⟩
    rw [Bool.or_eq_true,i,j]
    constructor
    · rintro (h|⟨x,hx,h⟩)
      · exact ⟨l,by simp,h⟩
      · exact ⟨x,by simp [hx],h⟩
    · rintro ⟨x,hx,h2⟩
      rcases List.mem_cons.1 hx with rfl|hx
      · exact .inl h2
      · exact .inr ⟨x,hx,h2⟩
theorem has_ev {d:Nat} (hd:d < 1000000) {v:List Int} (hv:okV d 60 v) {set:List S60} (h:∀ l,l ∈ set → okL d l):∃ b,Ev (fun k=>count_has.f k set v) b∧(b=true ↔ InS d set v):=has_go hd hv set h
theorem refSums_ev (d:Nat) (hd:d < 1000000):∀ (n:Nat) (v:List Int) (ps:List (List Int)),v.sum.toNat < n → okV d 1000000 v → okP d ps → ps.length < 1000000 → ∃ b,Ev (fun k=>bellpullref05_sums.f k v ps) b∧(b=true ↔ Comb d ps v)
  | 0,v,ps,hn,_,_,_=>by omega
  | n + 1,v,ps,hn,hv,hp,hlen=>by
    have IH:=refSums_ev d hd n
    have tv:=refTotal_ev hv.2 (by rw [hv.1];exact hd)
    by_cases h0:v.sum=0
    · have:v=zeroN d:=eq_zeroN hv.1 (zero_of_sum hv.2.nn h0)
      refine ⟨true,?_,⟨fun _=>this ▸ .zero,fun _=>rfl⟩⟩
      refine Ev.succ ?_
      simp only [bellpullref05_sums.f]
      exact Ev.bind tv (Ev.pos h0 (Ev.now _))
    · have vp:0 < v.sum:=by have:=sum_nn hv.2.nn;omega
      have loop:∀ (t pre:List (List Int)),okP d t → (pre ++ t).length < 1000000 → ∃ b,Ev (fun k=>bellpullref05_sums.l0 k v (pre ++ t) (pre.length:Int)) b∧(b=true ↔ Comb d t v):=fun t=>by
        induction t with
        | nil =>
          intro pre _ _
          refine ⟨false,Ev.succ ?_,⟨fun h=>(by cases h),fun h=>?_⟩⟩
          · simp only [bellpullref05_sums.l0]
            exact Ev.neg (by simp) (Ev.now _)
          · rw [comb_nil.1 h,sum_zeroN] at h0
            exact absurd rfl h0
        | cons p t ih =>
          intro pre hpt hlen
          obtain ⟨b,e,i⟩:=ih (pre ++ [p]) hpt.tail (by simp at hlen ⊢;omega)
          rw [← app_snoc,← len_snoc] at e
          have op:=hpt p (by simp)
          have tp:=refTotal_ev op.2 (by rw [op.1];exact hd)
          have ws:wrap64 ((pre.length:Int) + 1)=((pre.length + 1:Nat):Int):=wsucc (by simp at hlen;omega)
          by_cases hp0:p.sum=0
          · have pz:p=zeroN d:=eq_zeroN op.1 (zero_of_sum op.2.nn hp0)
            refine ⟨b,Ev.succ ?_,i.trans (comb_skip pz hpt.tail.okD).symm⟩
            simp only [bellpullref05_sums.l0,rdL1_app,ws]
            exact Ev.pos (lt_app _ _ _) (Ev.pos (by omega) (Ev.bind tp (Ev.pos hp0 e)))
          · have hl:v.length=p.length:=hv.1.trans op.1.symm
            have hle:=refLess_ev hl hv.2 op.2 (by rw [hv.1];exact hd)
            have hc:=comb_sub hpt.okD (v:=v) hv.1
            have pp:0 < p.sum:=by have:=sum_nn op.2.nn;omega
            have hdrop:(pre ++ p :: t).drop ((pre.length:Int)).toNat=p :: t:=by simp
            by_cases hnn:nnV (subV v p)
            · have hs:okV d 1000000 (subV v p):=by
                refine ⟨subV_len hv.1 op.1,fun x hx=>⟨hnn x hx,?_⟩⟩
                have:∀ (v w:List Int),inB 1000000 v → nnV w → ∀ x,x ∈ subV v w → x ≤ 1000000:=fun v=>by
                  induction v with
                  | nil=>intro w _ _ x hx;simp [subV] at hx
                  | cons a v ih =>
                    intro w hv hw x hx
                    match w,hw,hx with
                    | b :: w,hw,hx =>
                      rw [subV] at hx
                      rcases List.mem_cons.1 hx with rfl|hx
                      · have:=hv a (by simp)
                        have:=hw b (by simp)
                        omega
                      · exact ih w (fun z hz=>hv z (by simp [hz])) (fun z hz=>hw z (by simp [hz])) x hx
                exact this v p hv.2 op.2.nn x hx
              have hsum:=sum_subV hl
              have:=sum_nn hs.2.nn
              obtain ⟨c,f,j⟩:=IH (subV v p) (p :: t) (by omega) hs hpt (by simp at hlen ⊢;omega)
              refine ⟨if c=true then true else b,Ev.succ ?_,?_⟩
              · simp only [bellpullref05_sums.l0,rdL1_app,ws]
                refine Ev.pos (lt_app _ _ _) (Ev.pos (by omega) (Ev.bind tp (Ev.neg hp0 (Ev.bind hle (Ev.pos (decide_eq_true hnn) (Ev.pos (by simp;omega) ?_))))))
                rw [hdrop]
                refine Ev.bind f ?_
                cases c with
                | true=>exact Ev.pos rfl (Ev.now _)
                | false=>exact Ev.neg (by simp) e
              · rw [hc,← j,← i]
                cases c <;> simp
            · refine ⟨b,Ev.succ ?_,?_⟩
              · simp only [bellpullref05_sums.l0,rdL1_app,ws]
                exact Ev.pos (lt_app _ _ _) (Ev.pos (by omega) (Ev.bind tp (Ev.neg hp0 (Ev.bind hle (Ev.neg (by simpa using hnn) e)))))
              · rw [i,hc]
                exact ⟨.inl,fun h=>h.resolve_right (fun h=>hnn (h.nn hpt.okD))⟩
      obtain ⟨b,e,i⟩:=loop ps [] hp hlen
      refine ⟨b,?_,i⟩
      refine Ev.succ ?_
      simp only [bellpullref05_sums.f]
      exact Ev.bind tv (Ev.neg h0 e)
theorem refHas_go {d:Nat} (hd:d < 1000000) {v:List Int} (hv:okV d 60 v):∀ (t pre:List S60),(∀ l,l ∈ t → okL d l∧l.f1.length < 1000000) → (pre ++ t).length < 1000000 → ∃ b,Ev (fun k=>bellpullref05_Has.l0 k (pre ++ t) v (pre.length:Int)) b∧(b=true ↔ InS d t v)
  | [],pre,_,_=>⟨false,by
      refine Ev.succ ?_
      simp only [bellpullref05_Has.l0]
      exact Ev.neg (by simp) (Ev.now _),⟨fun h=>(by cases h),fun ⟨l,h,_⟩=>by simp at h⟩⟩
  | l :: t,pre,h,hlen=>by
    obtain ⟨b,e,i⟩:=refHas_go hd hv t (pre ++ [l]) (fun x hx=>h x (by simp [hx])) (by simp at hlen ⊢;omega)
    rw [← app_snoc,← len_snoc] at e
    obtain ⟨⟨hb,hp,hn⟩,hn2⟩:=h l (by simp)
    have ws:wrap64 ((pre.length:Int) + 1)=((pre.length + 1:Nat):Int):=wsucc (by simp at hlen;omega)
    have hle:=refLess_ev (hv.1.trans hb.1.symm) (hv.mono (by decide)).2 hb.2 (by rw [hv.1];exact hd)
    have hi:=inL_sub hb hp hv.1
    have hs:InS d (l :: t) v ↔ InL d l.f0 l.f1 v ∨ InS d t v:=by
      constructor
      · rintro ⟨x,hx,h2⟩
        rcases List.mem_cons.1 hx with rfl|hx
        · exact .inl h2
        · exact .inr ⟨x,hx,h2⟩
      · rintro (h|⟨x,hx,h⟩)
        · exact ⟨l,by simp,h⟩
        · exact ⟨x,by simp [hx],h⟩
    by_cases hnn:nnV (subV v l.f0)
    · obtain ⟨c,f,j⟩:=refSums_ev d hd _ (subV v l.f0) l.f1 (Nat.lt_succ_self _) ((sub60 hv hb hnn).mono (by decide)) hp hn2
      refine ⟨if c=true then true else b,Ev.succ ?_,?_⟩
      · simp only [bellpullref05_Has.l0,rdT60_app,ws]
        refine Ev.pos (lt_app _ _ _) (Ev.pos (by omega) (Ev.bind hle (Ev.pos (decide_eq_true hnn) (Ev.bind f ?_))))
        cases c with
        | true=>exact Ev.pos rfl (Ev.now _)
        | false=>exact Ev.neg (by simp) e
      · rw [hs,hi,← j,← i]
        cases c <;> simp [hnn]
    · refine ⟨b,Ev.succ ?_,?_⟩
      · simp only [bellpullref05_Has.l0,rdT60_app,ws]
        exact Ev.pos (lt_app _ _ _) (Ev.pos (by omega) (Ev.bind hle (Ev.neg (by simpa using hnn) e)))
      · rw [hs,hi,i]
        exact ⟨.inr,fun h=>h.resolve_left (fun h=>hnn h.1)⟩
theorem refHas_ev {d:Nat} (hd:d < 1000000) {v:List Int} (hv:okV d 60 v) {set:List S60} (h:∀ l,l ∈ set → okL d l∧l.f1.length < 1000000) (hl:set.length < 1000000):∃ b,Ev (fun k=>bellpullref05_Has.f k set v) b∧(b=true ↔ InS d set v):=refHas_go hd hv set [] h hl
end Go.Proofs.Ytkonljiembcdlaa.Pure
/- Which error semilinear sets have, by the program and by the reference, in plain Lean. -/
set_option linter.unusedVariables false
set_option linter.unusedSimpArgs false
namespace Go.Proofs.Ytkonljiembcdlaa.Pure
open Go.RowKit Go.Proofs.MyWords Go.Proofs.YtkonljiembcdlaaW.PrintWords Go.Proofs.YtkonljiembcdlaaW.PrintLast Go.Proofs.YtkonljiembcdlaaW.PrintMore Go.Proofs.Ytkonljiembcdlaa.PC Go.Proofs.Ytkonljiembcdlaa.Sem
def farV (v:List Int):Bool:=v.any fun x=>decide (x < 0) || decide (20 < x)
def oddV (d:Int) (v:List Int):Bool:=(v.length:Int) != d
def longS (s:List S60):Bool:=s.any (fun l=>decide ((l.f1.length:Int) > 4)) || decide ((s.length:Int) > 8)
def wideS (s:List S60):Bool:=s.any fun l=>farV l.f0 || l.f1.any farV
def oddS (d:Int) (s:List S60):Bool:=s.any fun l=>oddV d l.f0 || l.f1.any (oddV d)
def badD (d:Int):Bool:=decide (d < 1) || decide (d > 3)
def chk (d:Int) (ss:List (List S60)):Int:=if ss.any longS=true then 3 else if (badD d || ss.any wideS)=true then 1 else if ss.any (oddS d)=true then 2 else 0
def short {α:Type} (l:List α):Prop:=l.length < 1000000000
theorem short.tail {α:Type} {x:α} {l:List α} (h:short (x :: l)):short l:=by unfold short at *;simp at h;omega
section
variable (d:Int) (lg:Bool) (ss:List (List S60)) (n2 i2:Int) (set:List S60) (n1 i1:Int)
theorem check_l2:∀ (t pre:List (List Int)) (fr od:Bool) (r:Int),short (pre ++ t) → Ev (fun k=>count_check.l1 k d lg (fr || t.any farV) (od || t.any (oddV d)) ss n2 i2 set n1 (wrap64 (i1 + 1))) r →
    Ev (fun k=>count_check.l2 k d lg fr od ss n2 i2 set n1 i1 (pre ++ t) ((pre ++ t).length:Int) (pre.length:Int)) r
  | [],pre,fr,od,r,hs,h=>by
    refine Ev.succ ?_
    simp only [count_check.l2]
    refine Ev.neg (by simp) ?_
    simpa using h
  | p :: t,pre,fr,od,r,hs,h=>by
    have ws:wrap64 ((pre.length:Int) + 1)=((pre.length + 1:Nat):Int):=wsucc (by unfold short at hs;simp at hs;omega)
    have ih:∀ fr od,Ev (fun k=>count_check.l1 k d lg (fr || t.any farV) (od || t.any (oddV d)) ss n2 i2 set n1 (wrap64 (i1 + 1))) r → Ev (fun k=>count_check.l2 k d lg fr od ss n2 i2 set n1 i1 (pre ++ p :: t) ((pre ++ p :: t).length:Int) ((pre.length + 1:Nat):Int)) r:=fun fr od h2=>by
      have:=check_l2 t (pre ++ [p]) fr od r (by rw [← app_snoc];exact hs) h2
      rw [← app_snoc,← len_snoc] at this
      exact this
    rw [List.any_cons,List.any_cons,← Bool.or_assoc,← Bool.or_assoc] at h
    refine Ev.succ ?_
    simp only [count_check.l2,rdL1_app,ws]
    refine Ev.pos (lt_app _ _ _) (Ev.pos (by omega) (Ev.pos (lt_app _ _ _) ?_))
    have inner:∀ f2,f2=(fr || farV p) → Ev (fun k=>if od=true then count_check.l2 k d lg f2 true ss n2 i2 set n1 i1 (pre ++ p :: t) ((pre ++ p :: t).length:Int) ((pre.length + 1:Nat):Int) else count_check.l2 k d lg f2 ((p.length:Int) != d) ss n2 i2 set n1 i1 (pre ++ p :: t) ((pre ++ p :: t).length:Int) ((pre.length + 1:Nat):Int)) r:=fun f2 e=>by
      subst e
      cases od with
      | true=>exact Ev.pos rfl (ih _ _ h)
      | false=>exact Ev.neg (by simp) (ih _ _ h)
    cases fr with
    | true=>exact Ev.pos rfl (inner _ rfl)
    | false =>
      refine Ev.neg (by simp) ?_
      refine Ev.bindc (x:=farV p) rfl ?_
      exact inner _ rfl
end
theorem check_l1 (d:Int) (ss:List (List S60)) (n2 i2:Int):∀ (t pre:List S60) (lg fr od:Bool) (r:Int),short (pre ++ t) → (∀ l,l ∈ t → short l.f1) →
    Ev (fun k=>count_check.l0 k d (lg || t.any (fun l=>decide ((l.f1.length:Int) > 4))) (fr || wideS t) (od || oddS d t) ss n2 (wrap64 (i2 + 1))) r →
    Ev (fun k=>count_check.l1 k d lg fr od ss n2 i2 (pre ++ t) ((pre ++ t).length:Int) (pre.length:Int)) r
  | [],pre,lg,fr,od,r,hs,hp,h=>by
    refine Ev.succ ?_
    simp only [count_check.l1]
    refine Ev.neg (by simp) ?_
    simpa [wideS,oddS] using h
  | l :: t,pre,lg,fr,od,r,hs,hp,h=>by
    have ws:wrap64 ((pre.length:Int) + 1)=((pre.length + 1:Nat):Int):=wsucc (by unfold short at hs;simp at hs;omega)
    have ih:∀ lg fr od,Ev (fun k=>count_check.l0 k d (lg || t.any (fun l=>decide ((l.f1.length:Int) > 4))) (fr || wideS t) (od || oddS d t) ss n2 (wrap64 (i2 + 1))) r → Ev (fun k=>count_check.l1 k d lg fr od ss n2 i2 (pre ++ l :: t) ((pre ++ l :: t).length:Int) ((pre.length + 1:Nat):Int)) r:=fun lg fr od h2=>by
      have:=check_l1 d ss n2 i2 t (pre ++ [l]) lg fr od r (by rw [← app_snoc];exact hs) (fun x hx=>hp x (by simp [hx])) h2
      rw [← app_snoc,← len_snoc] at this
      exact this
    have e1:wideS (l :: t)=(farV l.f0 || l.f1.any farV || wideS t):=by unfold wideS;rw [List.any_cons]
    have e2:oddS d (l :: t)=(oddV d l.f0 || l.f1.any (oddV d) || oddS d t):=by unfold oddS;rw [List.any_cons]
    rw [List.any_cons,e1,e2,← Bool.or_assoc,← Bool.or_assoc,← Bool.or_assoc,← Bool.or_assoc,← Bool.or_assoc] at h
    have s6:∀ lg fr od,Ev (fun k=>count_check.l0 k d (lg || t.any (fun l=>decide ((l.f1.length:Int) > 4))) (fr || l.f1.any farV || wideS t) (od || l.f1.any (oddV d) || oddS d t) ss n2 (wrap64 (i2 + 1))) r → Ev (fun k=>count_check.j6 k d lg fr od ss n2 i2 (pre ++ l :: t) ((pre ++ l :: t).length:Int) (pre.length:Int) l.f0 l.f1) r:=fun lg fr od h2=>by
      refine Ev.succ ?_
      simp only [count_check.j6]
      refine check_l2 d lg ss n2 i2 _ _ _ l.f1 [] fr od r (hp l (by simp)) ?_
      rw [ws]
      exact ih _ _ _ h2
    have s5:∀ lg fr od,Ev (fun k=>count_check.l0 k d (lg || t.any (fun l=>decide ((l.f1.length:Int) > 4))) (fr || l.f1.any farV || wideS t) (od || oddV d l.f0 || l.f1.any (oddV d) || oddS d t) ss n2 (wrap64 (i2 + 1))) r → Ev (fun k=>count_check.j5 k d lg fr od ss n2 i2 (pre ++ l :: t) ((pre ++ l :: t).length:Int) (pre.length:Int) l.f0 l.f1) r:=fun lg fr od h2=>by
      refine Ev.succ ?_
      simp only [count_check.j5]
      cases od with
      | true=>exact Ev.pos rfl (s6 _ _ _ (by simpa using h2))
      | false=>exact Ev.neg (by simp) (s6 _ _ _ (by simpa [oddV] using h2))
    have s4:∀ lg fr od,Ev (fun k=>count_check.l0 k d (lg || t.any (fun l=>decide ((l.f1.length:Int) > 4))) (fr || farV l.f0 || l.f1.any farV || wideS t) (od || oddV d l.f0 || l.f1.any (oddV d) || oddS d t) ss n2 (wrap64 (i2 + 1))) r → Ev (fun k=>count_check.j4 k d lg fr od ss n2 i2 (pre ++ l :: t) ((pre ++ l :: t).length:Int) (pre.length:Int) l.f0 l.f1) r:=fun lg fr od h2=>by
      refine Ev.succ ?_
      simp only [count_check.j4]
      cases fr with
      | true=>exact Ev.pos rfl (s5 _ _ _ (by simpa using h2))
      | false =>
        refine Ev.neg (by simp) ?_
        refine Ev.bindc (x:=farV l.f0) rfl ?_
        exact s5 _ _ _ (by simpa using h2)
    refine Ev.succ ?_
    simp only [count_check.l1,rdT60_app]
    refine Ev.pos (lt_app _ _ _) (Ev.pos (by omega) (Ev.pos (lt_app _ _ _) ?_))
    cases lg with
    | true=>exact Ev.pos rfl (s4 _ _ _ (by simpa using h))
    | false=>exact Ev.neg (by simp) (s4 _ _ _ (by simpa using h))
def tell (lg fr od:Bool):Int:=if lg=true then 3 else if fr=true then 1 else if od=true then 2 else 0
theorem check_l0 (d:Int):∀ (t pre:List (List S60)) (lg fr od:Bool),short (pre ++ t) → (∀ s,s ∈ t → short s∧∀ l,l ∈ s → short l.f1) →
    Ev (fun k=>count_check.l0 k d lg fr od (pre ++ t) ((pre ++ t).length:Int) (pre.length:Int)) (tell (lg || t.any longS) (fr || t.any wideS) (od || t.any (oddS d)))
  | [],pre,lg,fr,od,hs,hp=>by
    refine Ev.succ ?_
    simp only [count_check.l0]
    refine Ev.neg (by simp) ?_
    unfold tell
    cases lg
    · refine Ev.neg (by simp) ?_
      cases fr
      · refine Ev.neg (by simp) ?_
        cases od
        · exact Ev.neg (by simp) (Ev.now _)
        · exact Ev.pos rfl (Ev.now _)
      · exact Ev.pos rfl (Ev.now _)
    · exact Ev.pos rfl (Ev.now _)
  | s :: t,pre,lg,fr,od,hs,hp=>by
    have ws:wrap64 ((pre.length:Int) + 1)=((pre.length + 1:Nat):Int):=wsucc (by unfold short at hs;simp at hs;omega)
    have ih:∀ lg fr od,Ev (fun k=>count_check.l0 k d lg fr od (pre ++ s :: t) ((pre ++ s :: t).length:Int) ((pre.length + 1:Nat):Int)) (tell (lg || t.any longS) (fr || t.any wideS) (od || t.any (oddS d))):=fun lg fr od=>by
      have:=check_l0 d t (pre ++ [s]) lg fr od (by rw [← app_snoc];exact hs) (fun x hx=>hp x (by simp [hx]))
      rw [← app_snoc,← len_snoc] at this
      exact this
    have j2:∀ lg,Ev (fun k=>count_check.j2 k d lg fr od s (pre ++ s :: t) ((pre ++ s :: t).length:Int) (pre.length:Int)) (tell ((lg || s.any (fun l=>decide ((l.f1.length:Int) > 4))) || t.any longS) (fr || wideS s || t.any wideS) (od || oddS d s || t.any (oddS d))):=fun lg=>by
      refine Ev.succ ?_
      simp only [count_check.j2]
      refine check_l1 d _ _ _ s [] lg fr od _ (hp s (by simp)).1 (hp s (by simp)).2 ?_
      rw [ws]
      exact ih _ _ _
    refine Ev.succ ?_
    simp only [count_check.l0,rdL4_app]
    refine Ev.pos (lt_app _ _ _) (Ev.pos (by omega) (Ev.pos (lt_app _ _ _) ?_))
    rw [List.any_cons,List.any_cons,List.any_cons,← Bool.or_assoc,← Bool.or_assoc,← Bool.or_assoc]
    cases lg with
    | true =>
      refine Ev.pos rfl ?_
      simpa using j2 true
    | false =>
      refine Ev.neg (by simp) ?_
      have:=j2 (decide ((s.length:Int) > 8))
      rw [Bool.or_comm (decide ((s.length:Int) > 8))] at this
      rw [Bool.false_or]
      exact this
theorem check_ev (d:Int) (ss:List (List S60)) (hs:short ss) (hp:∀ s,s ∈ ss → short s∧∀ l,l ∈ s → short l.f1):Ev (fun k=>count_check.f k d ss) (chk d ss):=by
  have go:∀ fr,Ev (fun k=>count_check.j0 k d ss false fr false) (tell (ss.any longS) (fr || ss.any wideS) (ss.any (oddS d))):=fun fr=>by
    refine Ev.succ ?_
    simp only [count_check.j0]
    have:=check_l0 d ss [] false fr false hs hp
    simpa using this
  unfold count_check.f
  by_cases h:d < 1
  · have e:badD d=true:=by unfold badD;simp [h]
    refine Ev.pos h ?_
    have:=go true
    unfold chk
    rw [e]
    exact this
  · have e:badD d=decide (d > 3):=by unfold badD;simp [h]
    refine Ev.neg h ?_
    have:=go (decide (d > 3))
    unfold chk
    rw [e]
    exact this
theorem long_go:∀ (t pre:List S60),short (pre ++ t) → Ev (fun k=>bellpullref05_Long.l0 k (pre ++ t) (pre.length:Int)) (t.any (fun l=>decide ((l.f1.length:Int) > 4)) || decide (((pre ++ t).length:Int) > 8))
  | [],pre,hs=>by
    refine Ev.succ ?_
    simp only [bellpullref05_Long.l0]
    refine Ev.neg (by simp) ?_
    simp only [List.any_nil,Bool.false_or]
    exact Ev.now _
  | l :: t,pre,hs=>by
    have ws:wrap64 ((pre.length:Int) + 1)=((pre.length + 1:Nat):Int):=wsucc (by unfold short at hs;simp at hs;omega)
    have ih:=long_go t (pre ++ [l]) (by rw [← app_snoc];exact hs)
    rw [← app_snoc,← len_snoc] at ih
    refine Ev.succ ?_
    simp only [bellpullref05_Long.l0,rdT60_app,ws]
    refine Ev.pos (lt_app _ _ _) (Ev.pos (by omega) ?_)
    rw [List.any_cons]
    by_cases h:(l.f1.length:Int) > 4
    · rw [decide_eq_true h,Bool.true_or,Bool.true_or]
      exact Ev.pos h (Ev.now _)
    · rw [decide_eq_false h,Bool.false_or]
      exact Ev.neg h ih
theorem wide_go (m:Int):∀ (t pre:List Int),short (pre ++ t) → Ev (fun k=>bellpullref05_wide.l0 k (pre ++ t) m (pre.length:Int)) (t.any fun x=>decide (x < 0) || decide (m < x))
  | [],pre,hs=>by
    refine Ev.succ ?_
    simp only [bellpullref05_wide.l0]
    exact Ev.neg (by simp) (Ev.now _)
  | x :: t,pre,hs=>by
    have ws:wrap64 ((pre.length:Int) + 1)=((pre.length + 1:Nat):Int):=wsucc (by unfold short at hs;simp at hs;omega)
    have ih:=wide_go m t (pre ++ [x]) (by rw [← app_snoc];exact hs)
    rw [← app_snoc,← len_snoc] at ih
    refine Ev.succ ?_
    simp only [bellpullref05_wide.l0,rd_app,ws]
    refine Ev.pos (lt_app _ _ _) (Ev.pos (by omega) ?_)
    refine Ev.bindc (x:=!(decide (x < 0) || decide (m < x))) (by
      unfold bellpullref01_In.f
      by_cases h:x ≥ 0
      · rw [if_pos h,decide_eq_false (show ¬ x < 0 by omega),Bool.false_or]
        congr 1
        by_cases h2:x ≤ m
        · rw [decide_eq_true h2,decide_eq_false (by omega)];rfl
        · rw [decide_eq_false h2,decide_eq_true (by omega)];rfl
      · rw [if_neg h,decide_eq_true (show x < 0 by omega)];rfl) ?_
    rw [List.any_cons]
    cases hx:(decide (x < 0) || decide (m < x))
    · rw [Bool.false_or];exact Ev.pos rfl ih
    · exact Ev.neg (by simp) (Ev.now _)
theorem wide_ev (v:List Int) (hs:short v) (m:Int):Ev (fun k=>bellpullref05_wide.f k v m) (v.any fun x=>decide (x < 0) || decide (m < x)):=wide_go m v [] hs
theorem vectors_f (l:S60) (h:short l.f1):bellpullref05_vectors.f l.f0 l.f1=some (l.f0 :: l.f1):=by
  unfold bellpullref05_vectors.f short at *
  rw [Option.bind_some,if_pos (by simp;omega)]
  rfl
def shortL (l:S60):Prop:=short l.f0∧short (l.f0 :: l.f1)∧∀ p,p ∈ l.f1 → short p
def shortS (s:List S60):Prop:=short s∧∀ l,l ∈ s → shortL l
theorem Wide_l1 (set:List S60) (i:Int):∀ (t pre:List (List Int)) (r:Bool),short (pre ++ t) → (∀ p,p ∈ t → short p) → (t.any farV=false → Ev (fun k=>bellpullref05_Wide.l0 k set (wrap64 (i + 1))) r) → Ev (fun k=>bellpullref05_Wide.l1 k set i (pre ++ t) (pre.length:Int)) (t.any farV || r)
  | [],pre,r,hs,hp,h=>by
    refine Ev.succ ?_
    simp only [bellpullref05_Wide.l1]
    refine Ev.neg (by simp) ?_
    rw [List.any_nil,Bool.false_or]
    exact h rfl
  | p :: t,pre,r,hs,hp,h=>by
    have ws:wrap64 ((pre.length:Int) + 1)=((pre.length + 1:Nat):Int):=wsucc (by unfold short at hs;simp at hs;omega)
    refine Ev.succ ?_
    simp only [bellpullref05_Wide.l1,rdL1_app,ws]
    refine Ev.pos (lt_app _ _ _) (Ev.pos (by omega) (Ev.bind (wide_ev p (hp p (by simp)) 20) ?_))
    rw [List.any_cons]
    change Ev (fun k=>if farV p=true then _ else _) _
    cases hf:farV p with
    | true=>exact Ev.pos rfl (Ev.now _)
    | false =>
      have ih:=Wide_l1 set i t (pre ++ [p]) r (by rw [← app_snoc];exact hs) (fun x hx=>hp x (by simp [hx])) (fun h2=>h (by rw [List.any_cons,hf,h2];rfl))
      rw [← app_snoc,← len_snoc] at ih
      exact Ev.neg (by simp) ih
theorem Wide_l0:∀ (t pre:List S60),short (pre ++ t) → (∀ l,l ∈ t → shortL l) → Ev (fun k=>bellpullref05_Wide.l0 k (pre ++ t) (pre.length:Int)) (wideS t)
  | [],pre,hs,hp=>by
    refine Ev.succ ?_
    simp only [bellpullref05_Wide.l0]
    exact Ev.neg (by simp) (Ev.now _)
  | l :: t,pre,hs,hp=>by
    have ws:wrap64 ((pre.length:Int) + 1)=((pre.length + 1:Nat):Int):=wsucc (by unfold short at hs;simp at hs;omega)
    have ih:=Wide_l0 t (pre ++ [l]) (by rw [← app_snoc];exact hs) (fun x hx=>hp x (by simp [hx]))
    rw [← app_snoc,← len_snoc] at ih
    obtain ⟨h0,h1,h2⟩:=hp l (by simp)
    refine Ev.succ ?_
    simp only [bellpullref05_Wide.l0,rdT60_app]
    refine Ev.pos (lt_app _ _ _) (Ev.pos (by omega) (Ev.bindc (vectors_f l h1.tail) ?_))
    have:=Wide_l1 (pre ++ l :: t) (pre.length:Int) (l.f0 :: l.f1) [] (wideS t) h1 (fun p hp=>by
      rcases List.mem_cons.1 hp with rfl|hp
      · exact h0
      · exact h2 p hp) (fun _=>by rw [ws];exact ih)
    have e1:wideS (l :: t)=((l.f0 :: l.f1).any farV || wideS t):=by unfold wideS;rw [List.any_cons,List.any_cons]
    rw [e1]
    exact this
theorem Odd_l1 (d:Int) (set:List S60) (i:Int):∀ (t pre:List (List Int)) (r:Bool),short (pre ++ t) → Ev (fun k=>bellpullref05_Odd.l0 k d set (wrap64 (i + 1))) r → Ev (fun k=>bellpullref05_Odd.l1 k d set i (pre ++ t) (pre.length:Int)) (t.any (oddV d) || r)
  | [],pre,r,hs,h=>by
    refine Ev.succ ?_
    simp only [bellpullref05_Odd.l1]
    refine Ev.neg (by simp) ?_
    rw [List.any_nil,Bool.false_or]
    exact h
  | p :: t,pre,r,hs,h=>by
    have ws:wrap64 ((pre.length:Int) + 1)=((pre.length + 1:Nat):Int):=wsucc (by unfold short at hs;simp at hs;omega)
    refine Ev.succ ?_
    simp only [bellpullref05_Odd.l1,rdL1_app,ws]
    refine Ev.pos (lt_app _ _ _) (Ev.pos (by omega) ?_)
    rw [List.any_cons]
    by_cases hf:(p.length:Int)=d
    · have ih:=Odd_l1 d set i t (pre ++ [p]) r (by rw [← app_snoc];exact hs) h
      rw [← app_snoc,← len_snoc] at ih
      have:oddV d p=false:=by unfold oddV;simp [hf]
      rw [this,Bool.false_or]
      exact Ev.pos hf ih
    · have:oddV d p=true:=by unfold oddV;simp [hf]
      rw [this]
      exact Ev.neg hf (Ev.now _)
theorem Odd_l0 (d:Int):∀ (t pre:List S60),short (pre ++ t) → (∀ l,l ∈ t → shortL l) → Ev (fun k=>bellpullref05_Odd.l0 k d (pre ++ t) (pre.length:Int)) (oddS d t)
  | [],pre,hs,hp=>by
    refine Ev.succ ?_
    simp only [bellpullref05_Odd.l0]
    exact Ev.neg (by simp) (Ev.now _)
  | l :: t,pre,hs,hp=>by
    have ws:wrap64 ((pre.length:Int) + 1)=((pre.length + 1:Nat):Int):=wsucc (by unfold short at hs;simp at hs;omega)
    have ih:=Odd_l0 d t (pre ++ [l]) (by rw [← app_snoc];exact hs) (fun x hx=>hp x (by simp [hx]))
    rw [← app_snoc,← len_snoc] at ih
    obtain ⟨h0,h1,h2⟩:=hp l (by simp)
    refine Ev.succ ?_
    simp only [bellpullref05_Odd.l0,rdT60_app]
    refine Ev.pos (lt_app _ _ _) (Ev.pos (by omega) (Ev.bindc (vectors_f l h1.tail) ?_))
    have:=Odd_l1 d (pre ++ l :: t) (pre.length:Int) (l.f0 :: l.f1) [] (oddS d t) h1 (by rw [ws];exact ih)
    have e1:oddS d (l :: t)=((l.f0 :: l.f1).any (oddV d) || oddS d t):=by unfold oddS;rw [List.any_cons,List.any_cons]
    rw [e1]
    exact this
theorem inD (d:Int):bellpullref01_In.f d 1 3=some (!badD d):=by
  unfold bellpullref01_In.f badD
  by_cases h:d ≥ 1
  · rw [if_pos h,decide_eq_false (show ¬ d < 1 by omega),Bool.false_or]
    congr 1
    by_cases h2:d ≤ 3
    · rw [decide_eq_true h2,decide_eq_false (by omega)];rfl
    · rw [decide_eq_false h2,decide_eq_true (by omega)];rfl
  · rw [if_neg h,decide_eq_true (show d < 1 by omega)];rfl
theorem Check_l2 (d:Int) (hd:badD d=false):∀ (t pre:List (List S60)),short (pre ++ t) → (∀ s,s ∈ t → shortS s) → Ev (fun k=>bellpullref05_Check.l2 k d (pre ++ t) (pre.length:Int)) (if t.any (oddS d)=true then 2 else 0)
  | [],pre,hs,hp=>by
    refine Ev.succ ?_
    simp only [bellpullref05_Check.l2]
    exact Ev.neg (by simp) (Ev.now _)
  | s :: t,pre,hs,hp=>by
    have ws:wrap64 ((pre.length:Int) + 1)=((pre.length + 1:Nat):Int):=wsucc (by unfold short at hs;simp at hs;omega)
    have ih:=Check_l2 d hd t (pre ++ [s]) (by rw [← app_snoc];exact hs) (fun x hx=>hp x (by simp [hx]))
    rw [← app_snoc,← len_snoc] at ih
    have ho:Ev (fun k=>bellpullref05_Odd.f k d s) (oddS d s):=Odd_l0 d s [] (hp s (by simp)).1 (hp s (by simp)).2
    refine Ev.succ ?_
    simp only [bellpullref05_Check.l2,rdL4_app,ws]
    refine Ev.pos (lt_app _ _ _) (Ev.pos (by omega) (Ev.bind ho ?_))
    rw [List.any_cons]
    cases h:oddS d s
    · rw [Bool.false_or];exact Ev.neg (by simp) ih
    · exact Ev.pos rfl (Ev.now _)
theorem Check_l1 (d:Int) (all:List (List S60)) (r:Int) (hr:badD d=false → Ev (fun k=>bellpullref05_Check.l2 k d all 0) r):∀ (t pre:List (List S60)),all=pre ++ t → short (pre ++ t) → (∀ s,s ∈ t → shortS s) → Ev (fun k=>bellpullref05_Check.l1 k d all (pre.length:Int)) (if (badD d || t.any wideS)=true then 1 else r)
  | [],pre,ha,hs,hp=>by
    subst ha
    refine Ev.succ ?_
    simp only [bellpullref05_Check.l1]
    refine Ev.neg (by simp) (Ev.bindc (inD d) ?_)
    rw [List.any_nil,Bool.or_false]
    cases h:badD d
    · exact Ev.pos rfl (hr h)
    · exact Ev.neg (by simp) (Ev.now _)
  | s :: t,pre,ha,hs,hp=>by
    have ws:wrap64 ((pre.length:Int) + 1)=((pre.length + 1:Nat):Int):=wsucc (by unfold short at hs;simp at hs;omega)
    have ih:=Check_l1 d all r hr t (pre ++ [s]) (by rw [← app_snoc];exact ha) (by rw [← app_snoc];exact hs) (fun x hx=>hp x (by simp [hx]))
    rw [← len_snoc] at ih
    subst ha
    have hw:Ev (fun k=>bellpullref05_Wide.f k d s) (badD d || wideS s):=by
      unfold bellpullref05_Wide.f
      refine Ev.bindc (inD d) ?_
      cases h:badD d
      · rw [Bool.false_or];exact Ev.pos rfl (Wide_l0 s [] (hp s (by simp)).1 (hp s (by simp)).2)
      · exact Ev.neg (by simp) (Ev.now _)
    refine Ev.succ ?_
    simp only [bellpullref05_Check.l1,rdL4_app,ws]
    refine Ev.pos (lt_app _ _ _) (Ev.pos (by omega) (Ev.bind hw ?_))
    rw [List.any_cons]
    cases h:badD d
    · rw [h] at ih
      cases h2:wideS s
      · rw [Bool.false_or,Bool.false_or];exact Ev.neg (by simp) (by simpa using ih)
      · exact Ev.pos rfl (Ev.now _)
    · rw [Bool.true_or,Bool.true_or];exact Ev.pos rfl (Ev.now _)
theorem Check_l0 (d:Int) (all:List (List S60)) (r:Int) (hr:Ev (fun k=>bellpullref05_Check.l1 k d all 0) r):∀ (t pre:List (List S60)),all=pre ++ t → short (pre ++ t) → (∀ s,s ∈ t → shortS s) → Ev (fun k=>bellpullref05_Check.l0 k d all (pre.length:Int)) (if t.any longS=true then 3 else r)
  | [],pre,ha,hs,hp=>by
    subst ha
    refine Ev.succ ?_
    simp only [bellpullref05_Check.l0]
    exact Ev.neg (by simp) hr
  | s :: t,pre,ha,hs,hp=>by
    have ws:wrap64 ((pre.length:Int) + 1)=((pre.length + 1:Nat):Int):=wsucc (by unfold short at hs;simp at hs;omega)
    have ih:=Check_l0 d all r hr t (pre ++ [s]) (by rw [← app_snoc];exact ha) (by rw [← app_snoc];exact hs) (fun x hx=>hp x (by simp [hx]))
    rw [← len_snoc] at ih
    subst ha
    have hw:Ev (fun k=>bellpullref05_Long.f k s) (longS s):=long_go s [] (hp s (by simp)).1
    refine Ev.succ ?_
    simp only [bellpullref05_Check.l0,rdL4_app,ws]
    refine Ev.pos (lt_app _ _ _) (Ev.pos (by omega) (Ev.bind hw ?_))
    rw [List.any_cons]
    cases h2:longS s
    · rw [Bool.false_or];exact Ev.neg (by simp) ih
    · exact Ev.pos rfl (Ev.now _)
theorem refCheck_ev (d:Int) (ss:List (List S60)) (hs:short ss) (hp:∀ s,s ∈ ss → shortS s):Ev (fun k=>bellpullref05_Check.f k d ss) (chk d ss):=by
  unfold chk
  exact Check_l0 d ss _ (Check_l1 d ss _ (fun h=>Check_l2 d h ss [] hs hp) ss [] rfl hs hp) ss [] rfl hs hp
def okSet (d:Nat) (s:List S60):Prop:=s.length ≤ 8∧∀ l,l ∈ s → okV d 20 l.f0∧l.f1.length ≤ 4∧∀ p,p ∈ l.f1 → okV d 20 p
theorem farV_iff (v:List Int):farV v=false ↔ inB 20 v:=by
  have:=outside_iff v 20
  unfold farV
  rw [← Bool.not_eq_true,this]
  exact ⟨fun h=>Classical.byContradiction h,fun h h2=>h2 h⟩
theorem oddV_iff (d:Int) (v:List Int):oddV d v=false ↔ (v.length:Int)=d:=by unfold oddV;simp
theorem chk_ok {d:Int} {ss:List (List S60)}:chk d ss=0 ↔ (1 ≤ d∧d ≤ 3)∧∀ s,s ∈ ss → okSet d.toNat s:=by
  have hl:∀ s,longS s=false ↔ s.length ≤ 8∧∀ l,l ∈ s → l.f1.length ≤ 4:=fun s=>by
    unfold longS
    rw [Bool.or_eq_false_iff,← Bool.not_eq_true,List.any_eq_true,decide_eq_false_iff_not]
    constructor
    · rintro ⟨h1,h2⟩
      exact ⟨by omega,fun l hl=>Nat.le_of_not_lt (fun h=>h1 ⟨l,hl,decide_eq_true (by omega)⟩)⟩
    · rintro ⟨h1,h2⟩
      exact ⟨fun ⟨l,hl,h⟩=>by have:=h2 l hl;have:=of_decide_eq_true h;omega,by omega⟩
  have hw:∀ s,wideS s=false ↔ ∀ l,l ∈ s → inB 20 l.f0∧∀ p,p ∈ l.f1 → inB 20 p:=fun s=>by
    unfold wideS
    rw [← Bool.not_eq_true,List.any_eq_true]
    constructor
    · intro h l hl
      have:(farV l.f0 || l.f1.any farV)=false:=by
        rw [← Bool.not_eq_true];exact fun h2=>h ⟨l,hl,h2⟩
      rw [Bool.or_eq_false_iff,← Bool.not_eq_true (l.f1.any farV),List.any_eq_true] at this
      exact ⟨(farV_iff _).1 this.1,fun p hp=>(farV_iff _).1 (by rw [← Bool.not_eq_true];exact fun h2=>this.2 ⟨p,hp,h2⟩)⟩
    · rintro h ⟨l,hl,h2⟩
      rcases (Bool.or_eq_true _ _).mp h2 with h2|h2
      · rw [(farV_iff _).2 (h l hl).1] at h2;cases h2
      · obtain ⟨p,hp,h2⟩:=List.any_eq_true.1 h2
        rw [(farV_iff _).2 ((h l hl).2 p hp)] at h2;cases h2
  have ho:∀ s,oddS d s=false ↔ ∀ l,l ∈ s → (l.f0.length:Int)=d∧∀ p,p ∈ l.f1 → (p.length:Int)=d:=fun s=>by
    unfold oddS
    rw [← Bool.not_eq_true,List.any_eq_true]
    constructor
    · intro h l hl
      have:(oddV d l.f0 || l.f1.any (oddV d))=false:=by
        rw [← Bool.not_eq_true];exact fun h2=>h ⟨l,hl,h2⟩
      rw [Bool.or_eq_false_iff,← Bool.not_eq_true (l.f1.any (oddV d)),List.any_eq_true] at this
      exact ⟨(oddV_iff _ _).1 this.1,fun p hp=>(oddV_iff _ _).1 (by rw [← Bool.not_eq_true];exact fun h2=>this.2 ⟨p,hp,h2⟩)⟩
    · rintro h ⟨l,hl,h2⟩
      rcases (Bool.or_eq_true _ _).mp h2 with h2|h2
      · rw [(oddV_iff _ _).2 (h l hl).1] at h2;cases h2
      · obtain ⟨p,hp,h2⟩:=List.any_eq_true.1 h2
        rw [(oddV_iff _ _).2 ((h l hl).2 p hp)] at h2;cases h2
  have anyF:∀ (f:List S60 → Bool),ss.any f=false ↔ ∀ s,s ∈ ss → f s=false:=fun f=>by
    rw [← Bool.not_eq_true,List.any_eq_true]
    exact ⟨fun h s hs=>by rw [← Bool.not_eq_true];exact fun h2=>h ⟨s,hs,h2⟩,fun h ⟨s,hs,h2⟩=>by rw [h s hs] at h2;cases h2⟩
  have hb:badD d=false ↔ 1 ≤ d∧d ≤ 3:=by unfold badD;rw [Bool.or_eq_false_iff,decide_eq_false_iff_not,decide_eq_false_iff_not];omega
  have h0:chk d ss=0 ↔ ss.any longS=false∧badD d=false∧ss.any wideS=false∧ss.any (oddS d)=false:=by
    unfold chk
    cases ss.any longS <;> cases badD d <;> cases ss.any wideS <;> cases ss.any (oddS d) <;> simp
  rw [h0,anyF,anyF,anyF,hb]
  constructor
  · rintro ⟨h1,h2,h3,h4⟩
    refine ⟨h2,fun s hs=>⟨((hl s).1 (h1 s hs)).1,fun l hls=>?_⟩⟩
    have q3:=(hw s).1 (h3 s hs) l hls
    have q4:=(ho s).1 (h4 s hs) l hls
    exact ⟨⟨by omega,q3.1⟩,((hl s).1 (h1 s hs)).2 l hls,fun p hp=>⟨by have:=q4.2 p hp;omega,q3.2 p hp⟩⟩
  · rintro ⟨h1,h2⟩
    refine ⟨fun s hs=>(hl s).2 ⟨(h2 s hs).1,fun l hls=>((h2 s hs).2 l hls).2.1⟩,h1,fun s hs=>(hw s).2 (fun l hls=>?_),fun s hs=>(ho s).2 (fun l hls=>?_)⟩
    · have:=(h2 s hs).2 l hls
      exact ⟨this.1.2,fun p hp=>(this.2.2 p hp).2⟩
    · have:=(h2 s hs).2 l hls
      exact ⟨by have:=this.1.1;omega,fun p hp=>by have:=(this.2.2 p hp).1;omega⟩
theorem chk_range (d:Int) (ss:List (List S60)):chk d ss=0 ∨ chk d ss=1 ∨ chk d ss=2 ∨ chk d ss=3:=by
  unfold chk
  cases ss.any longS <;> cases badD d <;> cases ss.any wideS <;> cases ss.any (oddS d) <;> simp
theorem okSet.shorts {d:Nat} (hd:d ≤ 3) {s:List S60} (h:okSet d s):shortS s:=by
  refine ⟨by have:=h.1;unfold short;omega,fun l hl=>?_⟩
  have:=h.2 l hl
  exact ⟨by have:=this.1.1;unfold short;omega,by have:=this.2.1;unfold short;simp;omega,fun p hp=>by have:=(this.2.2 p hp).1;unfold short;omega⟩
theorem okSet.okL {d:Nat} {s:List S60} (h:okSet d s):∀ l,l ∈ s → okL d l:=fun l hl=>by
  have:=h.2 l hl
  exact ⟨this.1.mono (by decide),fun p hp=>(this.2.2 p hp).mono (by decide),by omega⟩
end Go.Proofs.Ytkonljiembcdlaa.Pure
/- The statements' measure of a long search has a value, in plain Lean. -/
set_option linter.unusedVariables false
set_option linter.unusedSimpArgs false
namespace Go.Proofs.Ytkonljiembcdlaa.Pure
open Go.RowKit Go.Proofs.MyWords Go.Proofs.YtkonljiembcdlaaW.PrintWords Go.Proofs.YtkonljiembcdlaaW.PrintLast Go.Proofs.YtkonljiembcdlaaW.PrintMore Go.Proofs.Ytkonljiembcdlaa.PC Go.Proofs.Ytkonljiembcdlaa.Sem
theorem heavy_l1 (set:List S60) (i:Int) (l:S60) (h0:0 ≤ i) (h1:i < (set.length:Int)) (hr:rd_T60 set i=l) (hl:∀ p,p ∈ l.f1 → inB 1000000 p∧p.length < 1000000) (hlen:l.f1.length < 1000000) (hn:∃ b,Ev (fun k=>bellpulllaw05_heavy.l0 k set (wrap64 (i + 1))) b) :
    ∀ (t pre:List (List Int)) (m:Int),l.f1=pre ++ t → ∃ b,Ev (fun k=>bellpulllaw05_heavy.l1 k set i m (pre.length:Int)) b
  | [],pre,m,e=>by
    have hl1:l.f1.length=pre.length:=by rw [e];simp
    by_cases hm:m > 2
    · refine ⟨true,Ev.succ ?_⟩
      simp only [bellpulllaw05_heavy.l1,hr]
      exact Ev.pos h0 (Ev.pos h1 (Ev.neg (by omega) (Ev.pos hm (Ev.now _))))
    · obtain ⟨b,hb⟩:=hn
      refine ⟨b,Ev.succ ?_⟩
      simp only [bellpulllaw05_heavy.l1,hr]
      exact Ev.pos h0 (Ev.pos h1 (Ev.neg (by omega) (Ev.neg hm hb)))
  | p :: t,pre,m,e=>by
    have hl1:l.f1.length=pre.length + (t.length + 1):=by rw [e];simp
    have hp:=hl p (by rw [e];simp)
    have ih:=fun m=>heavy_l1 set i l h0 h1 hr hl hlen hn t (pre ++ [p]) m (by rw [e];simp)
    rw [← len_snoc] at ih
    have hrd:rd_L1 l.f1 (pre.length:Int)=p:=by rw [e];exact rdL1_app _ _ _
    have tp:=refTotal_ev hp.1 hp.2
    have ws:wrap64 ((pre.length:Int) + 1)=((pre.length + 1:Nat):Int):=wsucc (by omega)
    by_cases q1:p.sum > 0
    · by_cases q2:p.sum < 3
      · obtain ⟨b,hb⟩:=ih (wrap64 (m + 1))
        refine ⟨b,Ev.succ ?_⟩
        simp only [bellpulllaw05_heavy.l1,hr,hrd,ws]
        exact Ev.pos h0 (Ev.pos h1 (Ev.pos (by omega) (Ev.pos (by omega) (Ev.bind tp (Ev.pos q1 (Ev.pos q2 hb))))))
      · obtain ⟨b,hb⟩:=ih m
        refine ⟨b,Ev.succ ?_⟩
        simp only [bellpulllaw05_heavy.l1,hr,hrd,ws]
        exact Ev.pos h0 (Ev.pos h1 (Ev.pos (by omega) (Ev.pos (by omega) (Ev.bind tp (Ev.pos q1 (Ev.neg q2 hb))))))
    · obtain ⟨b,hb⟩:=ih m
      refine ⟨b,Ev.succ ?_⟩
      simp only [bellpulllaw05_heavy.l1,hr,hrd,ws]
      exact Ev.pos h0 (Ev.pos h1 (Ev.pos (by omega) (Ev.pos (by omega) (Ev.bind tp (Ev.neg q1 hb)))))
theorem heavy_l0 (hd:Nat):∀ (t pre:List S60),(pre ++ t).length < 1000000 → (∀ l,l ∈ t → l.f1.length < 1000000∧∀ p,p ∈ l.f1 → inB 1000000 p∧p.length < 1000000) → ∃ b,Ev (fun k=>bellpulllaw05_heavy.l0 k (pre ++ t) (pre.length:Int)) b
  | [],pre,hs,h=>by
    refine ⟨false,Ev.succ ?_⟩
    simp only [bellpulllaw05_heavy.l0]
    exact Ev.neg (by simp) (Ev.now _)
  | l :: t,pre,hs,h=>by
    have ih:=heavy_l0 hd t (pre ++ [l]) (by rw [← app_snoc];exact hs) (fun x hx=>h x (by simp [hx]))
    rw [← app_snoc,← len_snoc] at ih
    have hl:=h l (by simp)
    have ws:wrap64 ((pre.length:Int) + 1)=((pre.length + 1:Nat):Int):=wsucc (by simp at hs;omega)
    obtain ⟨b,hb⟩:=heavy_l1 (pre ++ l :: t) (pre.length:Int) l (by omega) (lt_app _ _ _) (rdT60_app _ _ _) hl.2 hl.1 (by rw [ws];exact ih) l.f1 [] 0 rfl
    refine ⟨b,Ev.succ ?_⟩
    simp only [bellpulllaw05_heavy.l0]
    exact Ev.pos (lt_app _ _ _) hb
theorem heavy_ev {d:Nat} (hd:d ≤ 3) {set:List S60} (h:okSet d set):∃ b,Ev (fun k=>bellpulllaw05_heavy.f k set) b :=
  heavy_l0 d set [] (by have:=h.1;simp;omega) (fun l hl=>by
    have:=h.2 l hl
    exact ⟨by omega,fun p hp=>⟨((this.2.2 p hp).mono (n:=1000000) (by decide)).2,by have:=(this.2.2 p hp).1;omega⟩⟩)
end Go.Proofs.Ytkonljiembcdlaa.Pure
/- A vector's total, as the program takes it, in plain Lean. -/
set_option linter.unusedVariables false
set_option linter.unusedSimpArgs false
namespace Go.Proofs.Ytkonljiembcdlaa.Pure
open Go.RowKit Go.Proofs.MyWords Go.Proofs.YtkonljiembcdlaaW.PrintWords Go.Proofs.YtkonljiembcdlaaW.PrintLast Go.Proofs.YtkonljiembcdlaaW.PrintMore Go.Proofs.Ytkonljiembcdlaa.PC Go.Proofs.Ytkonljiembcdlaa.Sem
end Go.Proofs.Ytkonljiembcdlaa.Pure
/- count.Least and count.Count in plain Lean. -/
set_option linter.unusedVariables false
set_option linter.unusedSimpArgs false
namespace Go.Proofs.Ytkonljiembcdlaa.Pure
open Go.RowKit Go.Proofs.MyWords Go.Proofs.YtkonljiembcdlaaW.PrintWords Go.Proofs.YtkonljiembcdlaaW.PrintLast Go.Proofs.YtkonljiembcdlaaW.PrintMore Go.Proofs.Ytkonljiembcdlaa.PC Go.Proofs.Ytkonljiembcdlaa.Sem
def cmpL:List Int → List Int → Int
  | [],[]=>0
  | [],_ :: _=>-1
  | _ :: _,[]=>1
  | a :: s,b :: t=>if a < b then -1 else if a > b then 1 else cmpL s t
section
variable {d:Nat} (h1:1 ≤ d) (hd:d ≤ 3) {x:List S60} (hx:okSet d x)
include h1 hd hx
end
end Go.Proofs.Ytkonljiembcdlaa.Pure
namespace Go.Proofs.Ytkonljiembcdlaa.PC
open Go.Proofs.MyWords Go.RowKit Go.Proofs.YtkonljiembcdlaaW.PrintWords Go.Proofs.YtkonljiembcdlaaW.PrintLast Go.Proofs.YtkonljiembcdlaaW.PrintMore
attribute [local go_sem] max2_int min2_int max_two min_two max_three min_three max_four min_four   -- for this text's walks alone
set_option linter.unusedVariables false
set_option linter.unusedSimpArgs false
attribute [local go_sem] eqGuard_slices eqlnil23 neqnil23 eqlnil58 neqnil58
end Go.Proofs.Ytkonljiembcdlaa.PC
/- What the statements cut off, in plain Lean. -/
set_option linter.unusedVariables false
set_option linter.unusedSimpArgs false
namespace Go.Proofs.Ytkonljiembcdlaa.Pure
open Go.RowKit Go.Proofs.MyWords Go.Proofs.YtkonljiembcdlaaW.PrintWords Go.Proofs.YtkonljiembcdlaaW.PrintLast Go.Proofs.YtkonljiembcdlaaW.PrintMore Go.Proofs.Ytkonljiembcdlaa.PC Go.Proofs.Ytkonljiembcdlaa.Sem
theorem cut_f (v:List Int):bellpulllaw05_cut.f v=some (v.take 4):=by
  unfold bellpulllaw05_cut.f mn
  rw [Option.bind_some]
  by_cases h:(4:Int) < (v.length:Int)
  · rw [if_pos h,if_pos (by omega),if_pos (by omega),Option.bind_some,if_pos (by simp;omega)]
    rfl
  · rw [if_neg h,if_pos (by omega),if_pos (by omega),Option.bind_some,Int.toNat_natCast,List.take_length,if_pos (by simp;omega),List.take_of_length_le (by omega)]
    rfl
end Go.Proofs.Ytkonljiembcdlaa.Pure
/- What the statements cut off of semilinear sets, in plain Lean. -/
set_option linter.unusedVariables false
set_option linter.unusedSimpArgs false
namespace Go.Proofs.Ytkonljiembcdlaa.Pure
open Go.RowKit Go.Proofs.MyWords Go.Proofs.YtkonljiembcdlaaW.PrintWords Go.Proofs.YtkonljiembcdlaaW.PrintLast Go.Proofs.YtkonljiembcdlaaW.PrintMore Go.Proofs.Ytkonljiembcdlaa.PC Go.Proofs.Ytkonljiembcdlaa.Sem
def cutL (l:S60):S60:=⟨l.f0.take 4,(l.f1.take 5).map (·.take 4)⟩
theorem few_l1 (set:List S60) (i:Int) (l:S60) (h0:0 ≤ i) (h1:i < (set.length:Int)) (hr:rd_T60 set i=l) (o:List S60) (ho:o.length < 1000000) (b:List Int) (r:List S60) :
    ∀ (n:Nat) (t pre:List (List Int)) (acc:List (List Int)),5 - pre.length=n → l.f1=pre ++ t → acc.length=pre.length → pre.length ≤ 5 → Ev (fun k=>bellpulllaw05_few.l0 k set (o ++ [⟨b,acc ++ (t.take n).map (·.take 4)⟩]) (wrap64 (i + 1))) r → Ev (fun k=>bellpulllaw05_few.l1 k set o i (pre.length:Int) b acc) r
  | 0,t,pre,acc,hn,e,ha,hp,h=>by
    refine Ev.succ ?_
    simp only [bellpulllaw05_few.l1,hr]
    rw [List.take_zero,List.map_nil,List.append_nil] at h
    refine Ev.pos h0 (Ev.pos h1 ?_)
    by_cases q:(pre.length:Int) < (l.f1.length:Int)
    · exact Ev.pos q (Ev.neg (by omega) (Ev.pos (by omega) h))
    · exact Ev.neg q (Ev.pos (by omega) h)
  | n + 1,[],pre,acc,hn,e,ha,hp,h=>by
    have hl1:l.f1.length=pre.length:=by rw [e];simp
    refine Ev.succ ?_
    simp only [bellpulllaw05_few.l1,hr]
    rw [List.take_nil,List.map_nil,List.append_nil] at h
    exact Ev.pos h0 (Ev.pos h1 (Ev.neg (by omega) (Ev.pos (by omega) h)))
  | n + 1,p :: t,pre,acc,hn,e,ha,hp,h=>by
    have hl1:l.f1.length=pre.length + (t.length + 1):=by rw [e];simp
    have hrd:rd_L1 l.f1 (pre.length:Int)=p:=by rw [e];exact rdL1_app _ _ _
    have ih:=few_l1 set i l h0 h1 hr o ho b r n t (pre ++ [p]) (acc ++ [p.take 4]) (by simp;omega) (by rw [e];simp) (by simp [ha]) (by simp;omega) (by
      rw [List.append_assoc];exact h)
    rw [← len_snoc] at ih
    refine Ev.succ ?_
    simp only [bellpulllaw05_few.l1,hr,hrd,wsucc (show pre.length < 4611686018427387904 by omega)]
    exact Ev.pos h0 (Ev.pos h1 (Ev.pos (by omega) (Ev.pos (by omega) (Ev.pos (by omega) (Ev.bindc (cut_f p) (Ev.pos (by omega) ih))))))
theorem few_l0:∀ (n:Nat) (t pre o:List S60),9 - pre.length=n → pre.length ≤ 9 → o.length=pre.length → Ev (fun k=>bellpulllaw05_few.l0 k (pre ++ t) o (pre.length:Int)) (o ++ (t.take n).map cutL):=by
  have stop:∀ (set o:List S60) (i:Int),Ev (fun k=>bellpulllaw05_few.j1 k set o i false) o:=fun set o i=>by
    refine Ev.succ ?_
    simp only [bellpulllaw05_few.j1]
    exact Ev.neg (by simp) (Ev.now _)
  intro n
  induction n with
  | zero =>
    intro t pre o hn hp ho
    rw [List.take_zero,List.map_nil,List.append_nil]
    refine Ev.succ ?_
    simp only [bellpulllaw05_few.l0]
    have hd:decide ((pre.length:Int) ≤ 8)=false:=decide_eq_false (by omega)
    by_cases q:(pre.length:Int) < ((pre ++ t).length:Int)
    · refine Ev.pos q ?_
      rw [hd];exact stop _ _ _
    · exact Ev.neg q (stop _ _ _)
  | succ n ih =>
    intro t pre o hn hp ho
    match t with
    | [] =>
      simp only [List.take_nil,List.map_nil,List.append_nil]
      refine Ev.succ ?_
      simp only [bellpulllaw05_few.l0]
      exact Ev.neg (by simp) (stop _ _ _)
    | l :: t =>
      have hd:decide ((pre.length:Int) ≤ 8)=true:=decide_eq_true (by omega)
      have ih:=ih t (pre ++ [l]) (o ++ [cutL l]) (by simp;omega) (by simp;omega) (by simp [ho])
      rw [← app_snoc,← len_snoc,List.append_assoc] at ih
      refine Ev.succ ?_
      simp only [bellpulllaw05_few.l0,hd]
      refine Ev.pos (lt_app _ _ _) (Ev.succ ?_)
      simp only [bellpulllaw05_few.j1,rdT60_app]
      refine Ev.pos trivial (Ev.pos (by omega) (Ev.pos (lt_app _ _ _) (Ev.bindc (cut_f l.f0) ?_)))
      refine few_l1 (pre ++ l :: t) (pre.length:Int) l (by omega) (lt_app _ _ _) (rdT60_app _ _ _) o (by omega) _ _ 5 l.f1 [] [] rfl rfl rfl (by simp) ?_
      rw [wsucc (by omega),List.nil_append]
      have ho:o ++ [({ f0:=l.f0.take 4,f1:=(l.f1.take 5).map (·.take 4) }:S60)]=o ++ [cutL l]:=rfl
      rw [ho]
      exact ih
def fewL (set:List S60):List S60:=(set.take 9).map cutL
theorem few_ev (set:List S60):Ev (fun k=>bellpulllaw05_few.f k set) (fewL set):=few_l0 9 set [] [] rfl (by simp) rfl
theorem few_short (set:List S60):shortS (fewL set):=by
  unfold fewL
  refine ⟨by unfold short;simp;omega,fun l hl=>?_⟩
  obtain ⟨x,_,rfl⟩:=List.mem_map.1 hl
  refine ⟨by unfold short cutL;simp;omega,by unfold short cutL;simp;omega,fun p hp=>?_⟩
  obtain ⟨y,_,rfl⟩:=List.mem_map.1 hp
  unfold short;simp;omega
end Go.Proofs.Ytkonljiembcdlaa.Pure
/- All vectors of a sum, as the reference lists them, in plain Lean. -/
set_option linter.unusedVariables false
set_option linter.unusedSimpArgs false
namespace Go.Proofs.Ytkonljiembcdlaa.Pure
open Go.RowKit Go.Proofs.MyWords Go.Proofs.YtkonljiembcdlaaW.PrintWords Go.Proofs.YtkonljiembcdlaaW.PrintLast Go.Proofs.YtkonljiembcdlaaW.PrintMore Go.Proofs.Ytkonljiembcdlaa.PC Go.Proofs.Ytkonljiembcdlaa.Sem
def allL:Nat → Nat → List (List Int)
  | 0,n=>[[(n:Int)]]
  | d + 1,n=>(List.range (n + 1)).flatMap fun v=>(allL d (n - v)).map fun r=>(v:Int) :: r
theorem allL_len:∀ (d n:Nat),d ≤ 2 → n ≤ 60 → (allL d n).length ≤ 4000
  | 0,n,_,_=>by simp [allL]
  | 1,n,_,hn=>by
    have:∀ l:List Nat,(l.flatMap fun v=>(allL 0 (n - v)).map fun r=>(v:Int) :: r).length=l.length:=fun l=>by
      induction l with
      | nil=>rfl
      | cons a l ih=>rw [List.flatMap_cons,List.length_append,ih];simp [allL];omega
    rw [allL,this];simp;omega
  | 2,n,_,hn=>by
    have h1:∀ k,k ≤ 60 → (allL 1 k).length ≤ 61:=fun k hk=>by
      have:∀ l:List Nat,(l.flatMap fun v=>(allL 0 (k - v)).map fun r=>(v:Int) :: r).length=l.length:=fun l=>by
        induction l with
        | nil=>rfl
        | cons a l ih=>rw [List.flatMap_cons,List.length_append,ih];simp [allL];omega
      rw [allL,this];simp;omega
    have:∀ l:List Nat,(l.flatMap fun v=>(allL 1 (n - v)).map fun r=>(v:Int) :: r).length ≤ 61 * l.length:=fun l=>by
      induction l with
      | nil=>simp
      | cons a l ih =>
        have:=h1 (n - a) (by omega)
        rw [List.flatMap_cons,List.length_append,List.length_map,List.length_cons]
        omega
    rw [allL]
    have:=this (List.range (n + 1))
    rw [List.length_range] at this
    omega
theorem mem_allL:∀ {d n:Nat} {v:List Int},v ∈ allL d n ↔ v.length=d + 1∧nnV v∧v.sum=(n:Int)
  | 0,n,v=>by
    rw [allL,List.mem_singleton]
    constructor
    · rintro rfl
      exact ⟨rfl,fun x hx=>by obtain rfl:x=(n:Int):=(by simpa using hx);omega,by simp⟩
    · rintro ⟨h1,h2,h3⟩
      match v,h1 with
      | [x],_=>simp at h3;rw [h3]
  | d + 1,n,v=>by
    rw [allL,List.mem_flatMap]
    constructor
    · rintro ⟨a,ha,hv⟩
      obtain ⟨r,hr,rfl⟩:=List.mem_map.1 hv
      obtain ⟨h1,h2,h3⟩:=mem_allL.1 hr
      have ha:=List.mem_range.1 ha
      refine ⟨by simp [h1],fun x hx=>?_,by rw [List.sum_cons,h3];omega⟩
      rcases List.mem_cons.1 hx with rfl|hx
      · omega
      · exact h2 x hx
    · rintro ⟨h1,h2,h3⟩
      match v,h1 with
      | x :: r,h1 =>
        have hx:=h2 x (by simp)
        have hr:nnV r:=fun z hz=>h2 z (by simp [hz])
        have hs:=sum_nn hr
        rw [List.sum_cons] at h3
        refine ⟨x.toNat,List.mem_range.2 (by omega),List.mem_map.2 ⟨r,mem_allL.2 ⟨by simpa using h1,hr,by omega⟩,?_⟩⟩
        rw [Int.toNat_of_nonneg hx]
theorem all_l1 (d n:Int) (a:Int) (m:List (List Int)):∀ (t pre o:List (List Int)) (r:List (List Int)),m=pre ++ t → m.length < 1000000 → o.length + t.length < 1000000000 → (∀ p,p ∈ t → p.length < 1000) →
    Ev (fun k=>bellpullref05_All.l0 k d n (o ++ t.map (a :: ·)) (wrap64 (a + 1))) r → Ev (fun k=>bellpullref05_All.l1 k d n o a m (pre.length:Int)) r
  | [],pre,o,r,e,hl,ho,hp,h=>by
    have:m.length=pre.length:=by rw [e];simp
    refine Ev.succ ?_
    simp only [bellpullref05_All.l1]
    refine Ev.neg (by omega) ?_
    rw [List.map_nil,List.append_nil] at h
    exact h
  | p :: t,pre,o,r,e,hl,ho,hp,h=>by
    have hml:m.length=pre.length + (t.length + 1):=by rw [e];simp
    have hrd:rd_L1 m (pre.length:Int)=p:=by rw [e];exact rdL1_app _ _ _
    have pl:=hp p (by simp)
    have ih:=all_l1 d n a m t (pre ++ [p]) (o ++ [a :: p]) r (by rw [e];simp) hl (by simp at ho ⊢;omega) (fun q hq=>hp q (by simp [hq])) (by
      rw [List.append_assoc];exact h)
    rw [← len_snoc] at ih
    refine Ev.succ ?_
    simp only [bellpullref05_All.l1,hrd,wsucc (show pre.length < 4611686018427387904 by omega)]
    simp at ho
    exact Ev.pos (by omega) (Ev.bindc rfl (Ev.pos (by omega) (Ev.pos (by simp;omega) (Ev.pos (by omega) ih))))
theorem all_ev:∀ (d n:Nat),d ≤ 2 → n ≤ 60 → Ev (fun k=>bellpullref05_All.f k ((d + 1:Nat):Int) (n:Int)) (allL d n)
  | 0,n,_,_=>by
    refine Ev.succ ?_
    simp only [bellpullref05_All.f]
    exact Ev.pos (by simp) (Ev.now _)
  | d + 1,n,hd,hn=>by
    have IH:=fun m=>all_ev d m (by omega)
    have loop:∀ (j v:Nat) (o:List (List Int)),n + 1 - v=j → v ≤ n + 1 → o.length ≤ 4000 * v → Ev (fun k=>bellpullref05_All.l0 k ((d + 1 + 1:Nat):Int) (n:Int) o (v:Int)) (o ++ (List.range' v j).flatMap fun v=>(allL d (n - v)).map fun r=>(v:Int) :: r):=fun j=>by
      induction j with
      | zero =>
        intro v o hj hv ho
        refine Ev.succ ?_
        simp only [bellpullref05_All.l0]
        refine Ev.neg (by omega) ?_
        simp
        exact Ev.now _
      | succ j ih =>
        intro v o hj hv ho
        have hl:=allL_len d (n - v) (by omega) (by omega)
        have ih:=ih (v + 1) (o ++ (allL d (n - v)).map ((v:Int) :: ·)) (by omega) (by omega) (by rw [List.length_append,List.length_map];omega)
        have w1:wrap64 (((d + 1 + 1:Nat):Int) - 1)=((d + 1:Nat):Int):=by rw [wrap_id (by omega) (by omega)];omega
        have w2:wrap64 ((n:Int) - (v:Int))=((n - v:Nat):Int):=by rw [wrap_id (by omega) (by omega)];omega
        refine Ev.succ ?_
        simp only [bellpullref05_All.l0,w1,w2]
        refine Ev.pos (by omega) (Ev.bind (IH (n - v) (by omega)) ?_)
        refine all_l1 _ _ (v:Int) (allL d (n - v)) (allL d (n - v)) [] o _ rfl (by omega) (by omega) (fun p hp=>by have:=(mem_allL.1 hp).1;omega) ?_
        rw [wsucc (by omega),List.range'_succ,List.flatMap_cons,← List.append_assoc]
        exact ih
    refine Ev.succ ?_
    simp only [bellpullref05_All.f]
    refine Ev.neg (by omega) ?_
    have:=loop (n + 1) 0 [] (by omega) (by omega) (by simp)
    rw [List.nil_append,← List.range_eq_range'] at this
    exact this
end Go.Proofs.Ytkonljiembcdlaa.Pure
/- The document's examples. -/
set_option linter.unusedVariables false
namespace Go.Proofs.Ytkonljiembcdlaa.Pure
open Go.RowKit Go.Proofs.YtkonljiembcdlaaW.PrintWords Go.Proofs.Ytkonljiembcdlaa.PC
theorem lives_ev:Ev (fun k=>bellpulllaw05_lives.f k) true :=
  Ev.of (fun k=>bellpulllaw05_lives.mono k) (k:=60) (by kernel_rfl)
end Go.Proofs.Ytkonljiembcdlaa.Pure
/- count.Differ in plain Lean. -/
set_option linter.unusedVariables false
set_option linter.unusedSimpArgs false
namespace Go.Proofs.Ytkonljiembcdlaa.Pure
open Go.RowKit Go.Proofs.MyWords Go.Proofs.YtkonljiembcdlaaW.PrintWords Go.Proofs.YtkonljiembcdlaaW.PrintLast Go.Proofs.YtkonljiembcdlaaW.PrintMore Go.Proofs.Ytkonljiembcdlaa.PC Go.Proofs.Ytkonljiembcdlaa.Sem
theorem vecs_all:∀ (d s:Nat) (pre:List Int),vecs d s pre=(allL d s).map (pre ++ ·)
  | 0,s,pre=>rfl
  | d + 1,s,pre=>by
    rw [vecs,allL,List.map_flatMap]
    congr 1
    funext z
    rw [vecs_all d (s - z) (pre ++ [(z:Int)]),List.map_map]
    congr 1
    funext r
    simp
theorem in20 (x:Int):bellpullref01_In.f x 0 20=some (!(decide (x < 0) || decide (20 < x))):=by
  unfold bellpullref01_In.f
  by_cases h:x ≥ 0
  · rw [if_pos h,decide_eq_false (show ¬ x < 0 by omega),Bool.false_or,← decide_not]
    simp
  · rw [if_neg h,decide_eq_true (show x < 0 by omega)];rfl
theorem before_go:∀ (s t v w:List Int),v.length=w.length → (v ++ s).length < 1000000 → Ev (fun k=>bellpullref01_Before.l0 k (v ++ s) (w ++ t) (v.length:Int)) (decide (cmpL s t < 0))
  | [],[],v,w,hl,h1=>by
    refine Ev.succ ?_
    simp only [bellpullref01_Before.l0]
    refine Ev.neg (by simp) (Ev.succ ?_)
    simp only [bellpullref01_Before.j1]
    refine Ev.neg (by simp) (Ev.const ?_)
    simp [cmpL,hl]
  | [],b :: t,v,w,hl,h1=>by
    refine Ev.succ ?_
    simp only [bellpullref01_Before.l0]
    refine Ev.neg (by simp) (Ev.succ ?_)
    simp only [bellpullref01_Before.j1]
    refine Ev.neg (by simp) (Ev.const ?_)
    simp [cmpL,hl]
    omega
  | a :: s,[],v,w,hl,h1=>by
    have e:decide ((v.length:Int) < ((w ++ []).length:Int))=false:=decide_eq_false (by simp;omega)
    refine Ev.succ ?_
    simp only [bellpullref01_Before.l0,e]
    refine Ev.pos (by simp;omega) (Ev.succ ?_)
    simp only [bellpullref01_Before.j1]
    refine Ev.neg (by simp) (Ev.const ?_)
    simp [cmpL,hl]
    omega
  | a :: s,b :: t,v,w,hl,h1=>by
    have hv:v.length < 1000000:=by simp at h1;omega
    have e:decide ((v.length:Int) < ((w ++ b :: t).length:Int))=true:=decide_eq_true (by simp;omega)
    have e2:rd (w ++ b :: t) (v.length:Int)=b:=by rw [hl];exact rd_app _ _ _
    have ih:=before_go s t (v ++ [a]) (w ++ [b]) (by simp;omega) (by simpa using h1)
    rw [← app_snoc,← app_snoc,← len_snoc] at ih
    refine Ev.succ ?_
    simp only [bellpullref01_Before.l0,e]
    refine Ev.pos (by simp;omega) (Ev.succ ?_)
    simp only [bellpullref01_Before.j1,rd_app,e2,wsucc (show v.length < 4611686018427387904 by omega)]
    refine Ev.pos trivial (Ev.pos (by omega) (Ev.pos (by simp;omega) (Ev.pos (by simp;omega) ?_)))
    by_cases c:a=b
    · subst c
      have:cmpL (a :: s) (a :: t)=cmpL s t:=by simp [cmpL]
      rw [this]
      exact Ev.pos rfl ih
    · refine Ev.neg c (Ev.const ?_)
      by_cases c1:a < b
      · simp [cmpL,c1]
      · have c2:a > b:=by omega
        simp [cmpL,c1,c2]
theorem before_ev {s t:List Int} (h1:s.length < 1000000):Ev (fun k=>bellpullref01_Before.f k s t) (decide (cmpL s t < 0)):=before_go s t [] [] rfl h1
theorem cmp_self:∀ s:List Int,cmpL s s=0
  | []=>rfl
  | a :: s=>by simp [cmpL,cmp_self s]
theorem same_ev {s:List Int} (h:s.length < 1000000):Ev (fun k=>bellpullref01_Same.f k s s) true:=by
  have b:=before_ev (s:=s) (t:=s) h
  rw [cmp_self] at b
  unfold bellpullref01_Same.f
  exact Ev.bind b (Ev.neg (by simp) (Ev.bind b (Ev.now _)))
section
variable {d:Nat} {x y:List S60}
open Classical in
noncomputable def apartV (d:Nat) (x y:List S60) (v:List Int):Bool:=decide (¬ (InS d x v ↔ InS d y v))
open Classical in
theorem apartV_iff {v:List Int}:apartV d x y v=true ↔ ¬ (InS d x v ↔ InS d y v):=by unfold apartV;rw [decide_eq_true_eq]
theorem apart_bits {v:List Int} {a b:Bool} (ha:a=true ↔ InS d x v) (hb:b=true ↔ InS d y v):(apartV d x y v=true ↔ a ≠ b):=by
  rw [apartV_iff,← ha,← hb]
  cases a <;> cases b <;> simp
theorem differL_ev (hd:d ≤ 3) (hx:okSet d x) (hy:okSet d y):∀ l:List (List Int),(∀ v,v ∈ l → okV d 60 v) → Ev (fun k=>differL k x y l) (l.filter (apartV d x y))
  | [],_=>Ev.now _
  | v :: r,h=>by
    obtain ⟨a,e1,i1⟩:=has_ev (by omega) (h v (by simp)) hx.okL
    obtain ⟨b,e2,i2⟩:=has_ev (by omega) (h v (by simp)) hy.okL
    have ih:=differL_ev hd hx hy r (fun w hw=>h w (by simp [hw]))
    have hab:=apart_bits i1 i2
    simp only [differL]
    refine Ev.bind e1 (Ev.bind e2 (Ev.bind ih ?_))
    by_cases h:a=b
    · rw [if_pos h,List.filter_cons_of_neg (by rw [hab];simpa using h)]
      exact Ev.now _
    · rw [if_neg h,List.filter_cons_of_pos (hab.2 h)]
      exact Ev.now _
noncomputable def firstA (d:Nat) (x y:List S60):List Nat → Option (List Int)
  | []=>none
  | s :: r=>match (allL (d - 1) s).filter (apartV d x y) with|[]=>firstA d x y r|v :: _=>some v
theorem all60 (h1:1 ≤ d) {n:Nat} (hn:n ≤ 60) {v:List Int} (h:v ∈ allL (d - 1) n):okV d 60 v:=by
  obtain ⟨q1,q2,q3⟩:=mem_allL.1 h
  exact ⟨by omega,fun z hz=>⟨q2 z hz,by have:=mem_le_sum q2 z hz;omega⟩⟩
theorem vecs_nil (d s:Nat):vecs d s []=allL d s:=by
  rw [vecs_all]
  exact List.map_id' _
theorem differGo_ev (h1:1 ≤ d) (hd:d ≤ 3) (hx:okSet d x) (hy:okSet d y):∀ ss:List Nat,(∀ s,s ∈ ss → s ≤ 20) → Ev (fun k=>differGo k (d - 1) x y ss) (firstA d x y ss)
  | [],_=>Ev.now _
  | s :: r,h=>by
    have ih:=differGo_ev h1 hd hx hy r (fun t ht=>h t (by simp [ht]))
    have hl:=differL_ev hd hx hy (allL (d - 1) s) (fun v hv=>all60 h1 (by have:=h s (by simp);omega) hv)
    rw [← vecs_nil] at hl
    simp only [differGo,firstA]
    refine Ev.bind hl ?_
    rw [vecs_nil]
    cases (allL (d - 1) s).filter (apartV d x y) with
    | nil=>exact ih
    | cons v t=>exact Ev.now _
def asR:Option (List Int) → List Int × Int
  | none=>([],5)
  | some v=>(v,0)
theorem check2_ev (h1:1 ≤ d) (hd:d ≤ 3) (hx:okSet d x) (hy:okSet d y):Ev (fun k=>count_check.f k (d:Int) [x,y]) 0:=by
  have sx:=hx.shorts hd
  have sy:=hy.shorts hd
  have:=check_ev (d:Int) [x,y] (by unfold short;simp) (fun t ht=>by
    rcases List.mem_cons.1 ht with rfl|ht
    · exact ⟨sx.1,fun l hl=>(sx.2 l hl).2.1.tail⟩
    · obtain rfl:t=y:=by simpa using ht
      exact ⟨sy.1,fun l hl=>(sy.2 l hl).2.1.tail⟩)
  rw [chk_ok.2 ⟨by omega,fun t ht=>by
    rw [Int.toNat_natCast]
    rcases List.mem_cons.1 ht with rfl|ht
    · exact hx
    · obtain rfl:t=y:=by simpa using ht
      exact hy⟩] at this
  exact this
theorem Differ_ev (h1:1 ≤ d) (hd:d ≤ 3) (hx:okSet d x) (hy:okSet d y) {n:Nat} (hn:n ≤ 20):Ev (fun k=>count_Differ.f k (d:Int) x y (n:Int)) (asR (firstA d x y (List.range (n + 1)))):=by
  have hb:Ev (fun k=>count_bounded.f k (n:Int) (d:Int) [x,y]) 0:=by
    unfold count_bounded.f
    exact Ev.bind (check2_ev h1 hd hx hy) (Ev.neg (by decide) (Ev.neg (by omega) (Ev.neg (by omega) (Ev.now _))))
  have hg:=differGo_ev h1 hd hx hy (List.range (n + 1)) (fun s hs=>by have:=List.mem_range.1 hs;omega)
  unfold count_Differ.f
  rw [show ((d:Int) - 1).toNat=d - 1 by omega,Int.toNat_natCast]
  refine Ev.bind hb (Ev.pos rfl (Ev.pos ⟨by omega,by omega,by omega,by omega⟩ (Ev.bind hg ?_)))
  cases firstA d x y (List.range (n + 1)) with
  | none=>exact Ev.now _
  | some v=>exact Ev.now _
end
end Go.Proofs.Ytkonljiembcdlaa.Pure
/- CountDiffers: for every input the law returns true. -/
set_option linter.unusedVariables false
set_option linter.unusedSimpArgs false
namespace Go.Proofs.Ytkonljiembcdlaa.Pure
open Go.RowKit Go.Proofs.MyWords Go.Proofs.YtkonljiembcdlaaW.PrintWords Go.Proofs.YtkonljiembcdlaaW.PrintLast Go.Proofs.YtkonljiembcdlaaW.PrintMore Go.Proofs.Ytkonljiembcdlaa.PC Go.Proofs.Ytkonljiembcdlaa.Sem
section
variable {d:Nat} (h1:1 ≤ d) (hd:d ≤ 3) {x y:List S60} (hx:okSet d x) (hy:okSet d y) {v:List Int} {e n:Int} {X Y:List S60} {V:List Int}
include h1 hd hx hy
theorem differs_l1 {m:Nat} (hm:m ≤ 20) (hnext:(allL (d - 1) m).filter (apartV d x y)=[] → Ev (fun k=>bellpulllaw05_CountDiffers.l0 k x y v e ((m + 1:Nat):Int) (d:Int) n X Y V) true)
    (hhit:∀ u r,(allL (d - 1) m).filter (apartV d x y)=u :: r → v=u∧e=0):∀ (t pre:List (List Int)),allL (d - 1) m=pre ++ t → pre.filter (apartV d x y)=[] → Ev (fun k=>bellpulllaw05_CountDiffers.l1 k x y v e (m:Int) (allL (d - 1) m) (pre.length:Int) (d:Int) n X Y V) true
  | [],pre,q,hp=>by
    have hl:(allL (d - 1) m).length=pre.length:=by rw [q];simp
    refine Ev.succ ?_
    simp only [bellpulllaw05_CountDiffers.l1,wsucc (show m < 4611686018427387904 by omega)]
    exact Ev.neg (by omega) (hnext (by rw [q,List.append_nil];exact hp))
  | p :: t,pre,q,hp=>by
    have hl:(allL (d - 1) m).length=pre.length + (t.length + 1):=by rw [q];simp
    have hl4:=allL_len (d - 1) m (by omega) (by omega)
    have hrd:rd_L1 (allL (d - 1) m) (pre.length:Int)=p:=by rw [q];exact rdL1_app _ _ _
    have op:okV d 60 p:=all60 h1 (n:=m) (by omega) (by rw [q];simp)
    have has:∀ s:List S60,okSet d s → ∃ b,Ev (fun k=>bellpullref05_Has.f k s p) b∧(b=true ↔ InS d s p):=fun s os=>refHas_ev (d:=d) (by omega) op (set:=s) (fun l hl=>⟨os.okL l hl,by have:=(os.2 l hl).2.1;omega⟩) (by have:=os.1;omega)
    obtain ⟨a,e1,i1⟩:=has x hx
    obtain ⟨b,e2,i2⟩:=has y hy
    have hab:=apart_bits i1 i2
    have hit:a ≠ b → v=p∧e=0:=fun h=>hhit p (t.filter (apartV d x y)) (by rw [q,List.filter_append,hp,List.nil_append,List.filter_cons_of_pos (hab.2 h)])
    have same:a ≠ b → Ev (fun k=>bellpullref01_Same.f k v p) true:=fun h=>by
      obtain ⟨rfl,_⟩:=hit h
      exact same_ev (by have:=op.1;omega)
    have go:a=b → Ev (fun k=>bellpulllaw05_CountDiffers.l1 k x y v e (m:Int) (allL (d - 1) m) ((pre.length + 1:Nat):Int) (d:Int) n X Y V) true:=fun h=>by
      have:=differs_l1 hm hnext hhit t (pre ++ [p]) (by rw [q];simp) (by rw [List.filter_append,hp,List.filter_cons_of_neg (by rw [hab];simpa using h)];rfl)
      rwa [← len_snoc] at this
    refine Ev.succ ?_
    simp only [bellpulllaw05_CountDiffers.l1,hrd,wsucc (show pre.length < 4611686018427387904 by omega)]
    refine Ev.pos (by omega) (Ev.pos (by omega) (Ev.bind e1 (Ev.bind e2 ?_)))
    cases a
    · cases b
      · exact Ev.neg (by simp) (Ev.neg (by simp) (go rfl))
      · exact Ev.neg (by simp) (Ev.pos rfl (Ev.bind (same (by simp)) (Ev.pos rfl (Ev.pos (hit (by simp)).2 (Ev.bind lives_ev (Ev.now _))))))
    · cases b
      · exact Ev.pos rfl (Ev.neg (by simp) (Ev.bind (same (by simp)) (Ev.pos rfl (Ev.pos (hit (by simp)).2 (Ev.bind lives_ev (Ev.now _))))))
      · exact Ev.pos rfl (Ev.pos rfl (go rfl))
theorem differs_l0 {N:Nat} (hN:N ≤ 20):∀ (j m:Nat),N + 1 - m=j → m ≤ N + 1 → asR (firstA d x y (List.range' m j))=(v,e) → Ev (fun k=>bellpulllaw05_CountDiffers.l0 k x y v e (m:Int) (d:Int) (N:Int) X Y V) true
  | 0,m,hj,hm,hr=>by
    obtain ⟨rfl,rfl⟩:=Prod.mk.inj hr
    refine Ev.succ ?_
    simp only [bellpulllaw05_CountDiffers.l0]
    exact Ev.neg (by omega) (Ev.pos rfl (Ev.pos trivial (Ev.bind lives_ev (Ev.now _))))
  | j + 1,m,hj,hm,hr=>by
    have ha:=all_ev (d - 1) m (by omega) (by omega)
    rw [show d - 1 + 1=d by omega] at ha
    rw [List.range'_succ] at hr
    simp only [firstA] at hr
    refine Ev.succ ?_
    simp only [bellpulllaw05_CountDiffers.l0]
    refine Ev.pos (by omega) (Ev.bind ha ?_)
    refine differs_l1 h1 hd hx hy (m:=m) (by omega) (fun hf=>?_) (fun u r hf=>?_) _ [] rfl rfl
    · rw [hf] at hr
      exact differs_l0 hN j (m + 1) (by omega) (by omega) hr
    · rw [hf] at hr
      obtain ⟨rfl,rfl⟩:=Prod.mk.inj hr
      exact ⟨rfl,rfl⟩
end
theorem CountDiffers:∀ (a0_0 a0_1:Int) (l0_2 l0_3:List PC.S60) (l0_4:List Int),(Lit.int .i64 a0_0).wf=true → (Lit.int .i64 a0_1).wf=true → ∃ k,bellpulllaw05_CountDiffers.f k a0_0 a0_1 l0_2 l0_3 l0_4=some true:=by
  intro d n X Y V _ _
  refine Ev.rounds (g:=fun k=>bellpulllaw05_CountDiffers.f k d n X Y V) ?_
  obtain ⟨x,hx⟩:∃ x,x=fewL X:=⟨_,rfl⟩
  obtain ⟨y,hy⟩:∃ y,y=fewL Y:=⟨_,rfl⟩
  have sx:shortS x:=by rw [hx];exact few_short X
  have sy:shortS y:=by rw [hy];exact few_short Y
  have both:∀ t,t ∈ [x,y] → shortS t:=fun t ht=>by
    rcases List.mem_cons.1 ht with rfl|ht
    · exact sx
    · obtain rfl:t=y:=by simpa using ht
      exact sy
  have hchk:Ev (fun k=>bellpullref05_Check.f k d [x,y]) (chk d [x,y]):=refCheck_ev d [x,y] (by unfold short;simp) both
  have hcc:Ev (fun k=>count_check.f k d [x,y]) (chk d [x,y]):=check_ev d [x,y] (by unfold short;simp) (fun t ht=>⟨(both t ht).1,fun l hl=>((both t ht).2 l hl).2.1.tail⟩)
  unfold bellpulllaw05_CountDiffers.f
  refine Ev.bind (few_ev X) (Ev.bind (few_ev Y) ?_)
  rw [← hx,← hy]
  refine Ev.bind hchk ?_
  obtain ⟨c,hc⟩:∃ c,c=chk d [x,y]:=⟨_,rfl⟩
  have c4:=chk_range d [x,y]
  rw [← hc] at hcc c4 ⊢
  have hin:=in20 n
  have hbound:Ev (fun k=>count_bounded.f k n d [x,y]) (if c=3 then 3 else if n < 0 then 1 else if n > 20 then 1 else c):=by
    unfold count_bounded.f
    refine Ev.bind hcc (Ev.const ?_)
    by_cases h3:c=3
    · simp [h3]
    · by_cases h0:n < 0
      · simp [h3,h0]
      · by_cases h2:n > 20
        · simp [h3,h0,h2]
        · simp [h3,h0,h2]
  have cbad:∀ e:Int,e ≠ 0 → Ev (fun k=>count_bounded.f k n d [x,y]) e → Ev (fun k=>count_Differ.f k d x y n) ([],e):=fun e he hb=>by
    unfold count_Differ.f
    exact Ev.bind hb (Ev.neg he (Ev.now _))
  have tailbad:∀ e:Int,e ≠ 0 → Ev (fun k=>bellpulllaw05_CountDiffers.j2 k x y e [] e d n X Y V) true:=fun e he=>by
    refine Ev.succ ?_
    simp only [bellpulllaw05_CountDiffers.j2]
    exact Ev.neg he (Ev.pos rfl (Ev.pos trivial (Ev.bind lives_ev (Ev.now _))))
  have far:¬ (0 ≤ n∧n ≤ 20) → bellpullref01_In.f n 0 20=some false:=fun hr=>by
    rw [hin]
    by_cases h:n < 0
    · rw [decide_eq_true h];rfl
    · rw [decide_eq_true (show 20 < n by omega),Bool.or_true];rfl
  have near:(0 ≤ n∧n ≤ 20) → bellpullref01_In.f n 0 20=some true:=fun hr=>by
    rw [hin,decide_eq_false (by omega),decide_eq_false (by omega)];rfl
  by_cases c0:c=0
  · have ok:=chk_ok.1 (hc.symm.trans c0)
    have okx:=ok.2 x (by simp)
    have oky:=ok.2 y (by simp)
    obtain ⟨dn,rfl⟩:∃ dn:Nat,d=(dn:Int):=⟨d.toNat,by omega⟩
    rw [Int.toNat_natCast] at okx oky
    have h1:1 ≤ dn:=by omega
    have h3:dn ≤ 3:=by omega
    obtain ⟨b1,hev1⟩:=heavy_ev h3 okx
    obtain ⟨b2,hev2⟩:=heavy_ev h3 oky
    have heavy:Ev (fun k=>bellpulllaw05_CountDiffers.j0 k x y c true (dn:Int) n X Y V) true:=by
      refine Ev.succ ?_
      simp only [bellpulllaw05_CountDiffers.j0]
      exact Ev.pos trivial (Ev.bind lives_ev (Ev.now _))
    have light:Ev (fun k=>bellpulllaw05_CountDiffers.j0 k x y c false (dn:Int) n X Y V) true:=by
      refine Ev.succ ?_
      simp only [bellpulllaw05_CountDiffers.j0]
      refine Ev.neg (by simp) ?_
      by_cases hr:0 ≤ n∧n ≤ 20
      · obtain ⟨m,rfl⟩:∃ m:Nat,n=(m:Int):=⟨n.toNat,by omega⟩
        have hD:=Differ_ev h1 h3 okx oky (show m ≤ 20 by omega)
        refine Ev.bind hD (Ev.neg (by omega) (Ev.bindc (near hr) (Ev.succ ?_)))
        simp only [bellpulllaw05_CountDiffers.j1]
        refine Ev.neg (by simp) (Ev.succ ?_)
        simp only [bellpulllaw05_CountDiffers.j2]
        refine Ev.pos c0 (differs_l0 h1 h3 okx oky (N:=m) (by omega) (m + 1) 0 (by omega) (by omega) ?_)
        rw [← List.range_eq_range']
      · have hD:=cbad 1 (by decide) (by
          rw [if_neg (by omega)] at hbound
          by_cases h:n < 0
          · rw [if_pos h] at hbound;exact hbound
          · rw [if_neg h,if_pos (by omega)] at hbound;exact hbound)
        refine Ev.bind hD (Ev.neg (by omega) (Ev.bindc (far hr) (Ev.succ ?_)))
        simp only [bellpulllaw05_CountDiffers.j1]
        exact Ev.pos rfl (tailbad 1 (by decide))
    refine Ev.pos c0 (Ev.bind hev1 ?_)
    cases b1
    · refine Ev.neg (by simp) (Ev.bind hev2 ?_)
      cases b2
      · exact light
      · exact heavy
    · exact Ev.pos rfl heavy
  · refine Ev.neg c0 (Ev.succ ?_)
    simp only [bellpulllaw05_CountDiffers.j0]
    refine Ev.neg (by simp) ?_
    by_cases c3:c=3
    · rw [if_pos c3] at hbound
      refine Ev.bind (cbad 3 (by decide) hbound) (Ev.pos c3 (Ev.succ ?_))
      simp only [bellpulllaw05_CountDiffers.j1]
      refine Ev.neg (by simp) ?_
      rw [c3]
      exact tailbad 3 (by decide)
    · rw [if_neg c3] at hbound
      by_cases hr:0 ≤ n∧n ≤ 20
      · rw [if_neg (by omega),if_neg (by omega)] at hbound
        refine Ev.bind (cbad c c0 hbound) (Ev.neg c3 (Ev.bindc (near hr) (Ev.succ ?_)))
        simp only [bellpulllaw05_CountDiffers.j1]
        exact Ev.neg (by simp) (tailbad c c0)
      · have hD:=cbad 1 (by decide) (by
          by_cases h:n < 0
          · rw [if_pos h] at hbound;exact hbound
          · rw [if_neg h,if_pos (by omega)] at hbound;exact hbound)
        refine Ev.bind hD (Ev.neg c3 (Ev.bindc (far hr) (Ev.succ ?_)))
        simp only [bellpulllaw05_CountDiffers.j1]
        exact Ev.pos rfl (tailbad 1 (by decide))
end Go.Proofs.Ytkonljiembcdlaa.Pure
/- An array of three bytes, and a slice of bytes, as arguments: opened, and shut. -/
set_option linter.unusedVariables false
set_option linter.constructorNameAsVariable false
namespace Go.Proofs.Ytkonljiembcdlaa.RowT
open Go.ChangeShapes Go.WideShapes Go.ChangeAt Go.RowKit Go.Joins
section
variable {H:Type} {enc:TypeId × Value → H} {w:World} {base:Nat} {spare:Nat → Bool} {held:Bool}
end
end Go.Proofs.Ytkonljiembcdlaa.RowT
/- A query, and a plan, as arguments: opened. -/
set_option linter.unusedVariables false
set_option linter.constructorNameAsVariable false
namespace Go.Proofs.Ytkonljiembcdlaa.RowT
open Go.ChangeShapes Go.WideShapes Go.ChangeAt Go.RowKit Go.Joins Go.Proofs.YtkonljiembcdlaaW.PrintWords Go.Proofs.Ytkonljiembcdlaa.PC
theorem list_of {α:Type} {p:Nat → α → Prop}:∀ n:Nat,(∀ i,i < n → ∃ y,p i y) → ∃ xs:List α,xs.length=n∧∀ i y,xs[i]?=some y → p i y
  | 0,_=>⟨[],rfl,fun i y h=>by simp at h⟩
  | n + 1,h=>by
    obtain ⟨xs,h1,h2⟩:=list_of n (fun i hi=>h i (by omega))
    obtain ⟨y,hy⟩:=h n (by omega)
    refine ⟨xs ++ [y],by simp [h1],fun i z hz=>?_⟩
    by_cases hi:i < n
    · rw [List.getElem?_append_left (by omega)] at hz
      exact h2 i z hz
    · have:i < (xs ++ [y]).length:=by
        apply Classical.byContradiction
        intro hn
        rw [List.getElem?_eq_none (by omega)] at hz
        cases hz
      obtain rfl:i=n:=by simp [h1] at this;omega
      rw [List.getElem?_append_right (by omega),h1,Nat.sub_self] at hz
      obtain rfl:=Option.some.inj hz
      exact hy
section
variable {H:Type} {enc:TypeId × Value → H} {w:World} {base:Nat} {held:Bool}
theorem addr_add (a:Addr) (m k:Nat):(a.add m).add k=a.add (m + k):=by
  by_cases h1:k=0
  · subst h1;simp [Addr.add]
  · by_cases h2:m=0
    · subst h2;simp [Addr.add,h1]
    · simp [Addr.add,h1,h2,Nat.add_assoc]
theorem C_of_trod {α:Type} (d:Kd α) {t e:TypeId} (ht:Try.prog.underlying t=some (.slice e)) (hc:Try.prog.cellsOf e=d.sz)
    (hx:∀ fuel cs x,DataW.trod enc Try.prog w base (fun _=>true) held fuel e cs=some x → ∃ y,d.K w y cs) {fuel:Nat} {cs:List Value} {x:DataW H × List MemPlace} (h:DataW.trod enc Try.prog w base (fun _=>true) held fuel t cs=some x) :
    ∃ (A:Option Addr) (c:Nat) (xs:List α),cs=[.slice A xs.length c]∧xs.length ≤ c∧d.C w A xs.length xs:=by
  rcases Go.Deep.open_slice ht h with ⟨rfl,_⟩|⟨a,len,cap,m,n,D,Pl,rfl,_,hl,hm,hmm,_,hel⟩
  · exact ⟨none,0,[],rfl,Nat.le_refl _,rfl,Nat.zero_le _,fun h=>by simp at h⟩
  · have hlm:len ≤ m:=by rw [hmm];simp;exact hl
    have hcap:cap ≤ 9223372036854775807:=hm
    obtain ⟨xs,h1,h2⟩:=list_of (p:=fun i y=>∃ c:List Value,c.length=d.sz∧d.K w y c∧∀ k u,c[k]?=some u → w.cell? (a.add (i * d.sz + k))=some u) len (fun i hi=>by
      obtain ⟨cs',hcs,hr⟩:=hel i (by omega)
      obtain ⟨_,hlen,hcell⟩:=World.cells?_some hcs
      obtain ⟨y,hy⟩:=hx n cs' _ hr
      refine ⟨y,cs',hlen.trans hc,hy,fun k u hu=>?_⟩
      have hk:k < cs'.length:=by
        apply Classical.byContradiction
        intro hn
        rw [List.getElem?_eq_none (by omega)] at hu
        cases hu
      have:=hcell k (by omega)
      rw [hu,hc] at this
      have e:(a.add (i * d.sz)).add k=a.add (i * d.sz + k):=addr_add a _ k
      rw [e] at this
      exact this)
    refine ⟨some a,cap,xs,by rw [h1],by omega,rfl,by omega,fun _=>⟨a,rfl,h2⟩⟩
theorem int_of_trod:∀ (fuel:Nat) (cs:List Value) (x:DataW H × List MemPlace),DataW.trod enc Try.prog w base (fun _=>true) held fuel 3 cs=some x → ∃ y,(Kd.int .i64).K w y cs:=fun fuel cs x h=>by
  obtain ⟨n,rfl,_,_⟩:=DataW.trod_int Try.underlying3 h
  exact ⟨n,rfl⟩
theorem ints_of_trod {fuel:Nat} {cs:List Value} {x:DataW H × List MemPlace} (h:DataW.trod enc Try.prog w base (fun _=>true) held fuel 23 cs=some x):∃ (A:Option Addr) (c:Nat) (xs:List Int),cs=[.slice A xs.length c]∧xs.length ≤ c∧(Kd.int .i64).C w A xs.length xs :=
  C_of_trod (Kd.int .i64) Try.underlying23 (by kernel_rfl) int_of_trod h
set_option maxRecDepth 100000 in
theorem lin_of_trod (fuel:Nat) (cs:List Value) (x:DataW H × List MemPlace) (h:DataW.trod enc Try.prog w base (fun _=>true) held fuel 60 cs=some x):∃ y,k60.K w y cs:=by
  have c60:Try.prog.cellsOf 60=2:=by kernel_rfl
  have c23:Try.prog.cellsOf 23=1:=by kernel_rfl
  have c58:Try.prog.cellsOf 58=1:=by kernel_rfl
  obtain ⟨y0,y1,n,_,hl,h0,h1⟩:=trod_struct2 Try.underlying60 h
  rw [c60] at hl
  match cs,hl with
  | [v0,v1],_ =>
    have e0:(([v0,v1]:List Value).drop 0).take (Try.prog.cellsOf 23)=[v0]:=by rw [c23];rfl
    have e1:(([v0,v1]:List Value).drop 1).take (Try.prog.cellsOf 58)=[v1]:=by rw [c58];rfl
    dsimp only at h0 h1
    rw [e0] at h0
    rw [e1] at h1
    obtain ⟨A0,c0,xs,hv0,hl0,g0⟩:=ints_of_trod h0
    obtain ⟨A1,c1,ys,hv1,hl1,g1⟩:=C_of_trod (Kd.slice 3 (Kd.int .i64)) Try.underlying58 c23 (fun fuel cs x h=>by
      obtain ⟨A,c,zs,rfl,hl,g⟩:=ints_of_trod h
      exact ⟨zs,A,c,rfl,hl,g⟩) h1
    obtain rfl:v0=.slice A0 xs.length c0:=by simpa using hv0
    obtain rfl:v1=.slice A1 ys.length c1:=by simpa using hv1
    exact ⟨⟨xs,ys⟩,k60_mk w ⟨xs,ys⟩ hl0 g0 hl1 g1⟩
set_option maxRecDepth 100000 in
theorem lins_of_trod {fuel:Nat} {cs:List Value} {x:DataW H × List MemPlace} (h:DataW.trod enc Try.prog w base (fun _=>true) held fuel 22 cs=some x):∃ (A:Option Addr) (c:Nat) (xs:List S60),cs=[.slice A xs.length c]∧xs.length ≤ c∧k60.C w A xs.length xs :=
  C_of_trod k60 Try.underlying22 (by kernel_rfl) lin_of_trod h
set_option maxRecDepth 100000 in
theorem open_query {r:Reach} {b0:Nat} {v:Value} {d:DataW H} {p:List MemPlace} (hv:Value.okWide Try.prog w r b0 25 v) (h:DataW.Trod enc Try.prog w base (fun _=>true) held 25 v d p) :
    ∃ (D N:Int) (A2:Option Addr) (c2:Nat) (X:List S60) (A3:Option Addr) (c3:Nat) (Y:List S60) (A4:Option Addr) (c4:Nat) (V:List Int),v=.agg #[.int .i64 D,.int .i64 N,.slice A2 X.length c2,.slice A3 Y.length c3,.slice A4 V.length c4] ∧
      (Lit.int .i64 D).wf=true∧(Lit.int .i64 N).wf=true∧k60.C w A2 X.length X∧X.length ≤ c2∧k60.C w A3 Y.length Y∧Y.length ≤ c3∧(Kd.int .i64).C w A4 V.length V∧V.length ≤ c4:=by
  obtain ⟨cs,rfl,hsz⟩:=okWide_struct Try.underlying25 hv
  have c25:Try.prog.cellsOf 25=5:=by kernel_rfl
  have c3':Try.prog.cellsOf 3=1:=by kernel_rfl
  have c22:Try.prog.cellsOf 22=1:=by kernel_rfl
  have c23:Try.prog.cellsOf 23=1:=by kernel_rfl
  rw [c25] at hsz
  obtain ⟨l,rfl⟩:∃ l:List Value,cs=l.toArray:=⟨cs.toList,by simp⟩
  have hl:l.length=5:=by simpa using hsz
  obtain ⟨fuel,hf⟩:=h
  match l,hl with
  | [v0,v1,v2,v3,v4],_ =>
    cases fuel with
    | zero=>simp [DataW.trod] at hf
    | succ m =>
      rw [DataW.trod_step] at hf
      unfold DataW.trodStep at hf
      simp only [Try.underlying25,Value.cells] at hf
      rw [if_pos (by rw [c25];rfl)] at hf
      simp only [Option.map_eq_some_iff] at hf
      obtain ⟨ys,hy,_⟩:=hf
      simp only [c3',c22,c23,List.mapM_cons,List.mapM_nil,bind,pure,Option.bind_eq_some_iff,Option.some.injEq] at hy
      obtain ⟨y0,h0,_,⟨y1,h1,_,⟨y2,h2,_,⟨y3,h3,_,⟨y4,h4,_,rfl,rfl⟩,rfl⟩,rfl⟩,rfl⟩,rfl⟩:=hy
      obtain ⟨D,eD,_,wD⟩:=DataW.trod_int Try.underlying3 h0
      obtain ⟨N,eN,_,wN⟩:=DataW.trod_int Try.underlying3 h1
      obtain ⟨A2,c2,X,eX,l2,g2⟩:=lins_of_trod h2
      obtain ⟨A3,c3,Y,eY,l3,g3⟩:=lins_of_trod h3
      obtain ⟨A4,c4,V,eV,l4,g4⟩:=ints_of_trod h4
      simp at eD eN eX eY eV
      subst eD eN eX eY eV
      exact ⟨D,N,A2,c2,X,A3,c3,Y,A4,c4,V,rfl,wD,wN,g2,l2,g3,l3,g4,l4⟩
end
end Go.Proofs.Ytkonljiembcdlaa.RowT
