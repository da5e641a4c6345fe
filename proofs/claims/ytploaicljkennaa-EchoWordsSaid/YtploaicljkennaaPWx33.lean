-- Written by pr2.py, a program of this session's, for this claim (through the kit's print).
import Derived.Test.YtploaicljkennaaPWx0
import Derived.Test.YtploaicljkennaaPWx1
import Derived.Test.YtploaicljkennaaPWx26
import Derived.Test.YtploaicljkennaaPWx27
import Derived.Test.YtploaicljkennaaPWx31
import Derived.Test.YtploaicljkennaaPWx32
namespace Go.Proofs.Ytploaicljkennaa.PW
open Go.Proofs.MyWords Go.RowKit Go.Proofs.YtploaicljkennaaW.PrintWords Go.Proofs.YtploaicljkennaaW.PrintLast Go.Proofs.YtploaicljkennaaW.PrintMore
attribute [local go_sem] max2_int min2_int max_two min_two max_three min_three max_four min_four   -- for this text's walks alone
set_option linter.unusedVariables false
set_option linter.unusedSimpArgs false

/-! ### bellpulllaw02_EchoWords: function 13 -/
mutual
def bellpulllaw02_EchoWords.j0:Nat → Int → List (List Int) → Int → Int → Int → List Int → Bool → Option (Bool)
  | 0,_,_,_,_,_,_,_=>none
  | k + 1,x0,x3,x4,x5,x6,x7,x48=>if x48=true then (none) else ((bellpullref01_In.f x0 0 10).bind fun t338=>(if t338=true then ((bellpullref02_Words.f k x0).bind fun t339=>((bellpullref01_SameLists.f k x3 t339).bind fun t342=>(if t342=true then (if x4=0 then (if x5=(t339.length:Int) then (if x0 < 7 then (if 0 ≤ x0 then (if x0 < (x7.length:Int) then (bellpulllaw02_EchoWords.j1 k x0 x5 x6 (x5 != (rd x7 x0))) else (none)) else (none)) else (bellpulllaw02_EchoWords.j1 k x0 x5 x6 false)) else (none)) else (none)) else (none)))) else ((bellpullref01_In.f x0 0 16).bind fun t348=>(if t348=true then (if x6=0 then ((bellpullref02_Words.f k x0).bind fun t349=>(some (x5 == (t349.length:Int)))) else (none)) else (some true)))))
def bellpulllaw02_EchoWords.j1:Nat → Int → Int → Int → Bool → Option (Bool)
  | 0,_,_,_,_=>none
  | k + 1,x0,x5,x6,x78=>if x78=true then (none) else ((bellpullref01_In.f x0 0 16).bind fun t344=>(if t344=true then (if x6=0 then ((bellpullref02_Words.f k x0).bind fun t345=>(some (x5 == (t345.length:Int)))) else (none)) else (some true)))
end
def bellpulllaw02_EchoWords.f (k:Nat) (a0:Int):Option (Bool):=(echo_Words.f k a0).bind fun bt322=>((echo_Count.f k a0).bind fun bt326=>((some (([1,2,4,6,10,14,18]:List Int):List Int)).bind fun y328=>((bellpullref01_In.f a0 0 10).bind fun t331=>(if t331=true then ((bellpullref01_In.f a0 0 16).bind fun t332=>(if t332=true then ((bellpulllaw02_lives.f k).bind fun t333=>(bellpulllaw02_EchoWords.j0 k a0 bt322.1 bt322.2 bt326.1 bt326.2 y328 (!t333))) else (if bt326.1=0 then (if bt326.2=1 then ((bellpulllaw02_lives.f k).bind fun t334=>(bellpulllaw02_EchoWords.j0 k a0 bt322.1 bt322.2 bt326.1 bt326.2 y328 (!t334))) else (none)) else (none)))) else (if (bt322.1.length:Int)=0 then (if bt322.2=1 then ((bellpullref01_In.f a0 0 16).bind fun t335=>(if t335=true then ((bellpulllaw02_lives.f k).bind fun t336=>(bellpulllaw02_EchoWords.j0 k a0 bt322.1 bt322.2 bt326.1 bt326.2 y328 (!t336))) else (if bt326.1=0 then (if bt326.2=1 then ((bellpulllaw02_lives.f k).bind fun t337=>(bellpulllaw02_EchoWords.j0 k a0 bt322.1 bt322.2 bt326.1 bt326.2 y328 (!t337))) else (none)) else (none)))) else (none)) else (none))))))
theorem bellpulllaw02_EchoWords.mono_l:∀ k,(∀ y0 y1 y2 y3 y4 y5 y6,LeO (bellpulllaw02_EchoWords.j0 k y0 y1 y2 y3 y4 y5 y6) (bellpulllaw02_EchoWords.j0 (k + 1) y0 y1 y2 y3 y4 y5 y6))∧(∀ y0 y1 y2 y3,LeO (bellpulllaw02_EchoWords.j1 k y0 y1 y2 y3) (bellpulllaw02_EchoWords.j1 (k + 1) y0 y1 y2 y3))
  | 0=>⟨fun _ _ _ _ _ _ _ r h=>by simp [bellpulllaw02_EchoWords.j0] at h,fun _ _ _ _ r h=>by simp [bellpulllaw02_EchoWords.j1] at h⟩
  | k + 1=>by
    obtain ⟨ih0,ih1⟩:=bellpulllaw02_EchoWords.mono_l k
    refine ⟨?_,?_⟩
    · intro y0 y1 y2 y3 y4 y5 y6
      unfold bellpulllaw02_EchoWords.j0
      with_reducible repeat' first|exact ih0 _ _ _ _ _ _ _|exact ih1 _ _ _ _|exact bellpulllaw02_lives.mono _|exact bellpullref01_SameLists.mono _ _ _|exact bellpullref02_Words.mono _ _|exact echo_Count.mono _ _|exact echo_Words.mono _ _|exact LeO.refl _|exact LeO.none _|refine LeO.ite ?_ ?_|refine LeO.bind ?_ (fun _=>?_)
    · intro y0 y1 y2 y3
      unfold bellpulllaw02_EchoWords.j1
      with_reducible repeat' first|exact ih0 _ _ _ _ _ _ _|exact ih1 _ _ _ _|exact bellpulllaw02_lives.mono _|exact bellpullref01_SameLists.mono _ _ _|exact bellpullref02_Words.mono _ _|exact echo_Count.mono _ _|exact echo_Words.mono _ _|exact LeO.refl _|exact LeO.none _|refine LeO.ite ?_ ?_|refine LeO.bind ?_ (fun _=>?_)
theorem bellpulllaw02_EchoWords.mono:∀ a0 k,LeO (bellpulllaw02_EchoWords.f k a0) (bellpulllaw02_EchoWords.f (k + 1) a0):=by
  intro a0 k
  obtain ⟨ih0,ih1⟩:=bellpulllaw02_EchoWords.mono_l k
  unfold bellpulllaw02_EchoWords.f
  with_reducible repeat' first|exact ih0 _ _ _ _ _ _ _|exact ih1 _ _ _ _|exact bellpulllaw02_lives.mono _|exact bellpullref01_SameLists.mono _ _ _|exact bellpullref02_Words.mono _ _|exact echo_Count.mono _ _|exact echo_Words.mono _ _|exact LeO.refl _|exact LeO.none _|refine LeO.ite ?_ ?_|refine LeO.bind ?_ (fun _=>?_)
set_option maxHeartbeats 8000000 in
set_option maxRecDepth 100000 in
theorem bellpulllaw02_EchoWords.calls (k:Nat) (a0:Int) (r:Bool) (w:World) (h:bellpulllaw02_EchoWords.f k a0=some r) :
    Calls Try.prog 13 #[.int .i64 a0] w fun e w'=>e=.returned (.bool r)∧Below w.heap.size w w':=by
 have HB:=mk0 (Below.refl w.heap.size w);have H:((echo_Words.f k a0).bind fun bt322=>((echo_Count.f k a0).bind fun bt326=>((some (([1,2,4,6,10,14,18]:List Int):List Int)).bind fun y328=>((bellpullref01_In.f a0 0 10).bind fun t331=>(if t331=true then ((bellpullref01_In.f a0 0 16).bind fun t332=>(if t332=true then ((bellpulllaw02_lives.f k).bind fun t333=>(bellpulllaw02_EchoWords.j0 k a0 bt322.1 bt322.2 bt326.1 bt326.2 y328 (!t333))) else (if bt326.1=0 then (if bt326.2=1 then ((bellpulllaw02_lives.f k).bind fun t334=>(bellpulllaw02_EchoWords.j0 k a0 bt322.1 bt322.2 bt326.1 bt326.2 y328 (!t334))) else (none)) else (none)))) else (if (bt322.1.length:Int)=0 then (if bt322.2=1 then ((bellpullref01_In.f a0 0 16).bind fun t335=>(if t335=true then ((bellpulllaw02_lives.f k).bind fun t336=>(bellpulllaw02_EchoWords.j0 k a0 bt322.1 bt322.2 bt326.1 bt326.2 y328 (!t336))) else (if bt326.1=0 then (if bt326.2=1 then ((bellpulllaw02_lives.f k).bind fun t337=>(bellpulllaw02_EchoWords.j0 k a0 bt322.1 bt322.2 bt326.1 bt326.2 y328 (!t337))) else (none)) else (none)))) else (none)) else (none)))))))=some r:=h;clear h;replace H:=Option.bind_eq_some_iff.mp H;obtain ⟨⟨t322,t325⟩,A20,H⟩:=H;(try dsimp only at H);have A2:=mk0 A20;clear A20;replace H:=Option.bind_eq_some_iff.mp H;obtain ⟨⟨t326,t327⟩,A30,H⟩:=H;(try dsimp only at H);have A3:=mk0 A30;clear A30;obtain ⟨y328,hy328⟩:∃ y_:List Int,y_=(([1,2,4,6,10,14,18]:List Int)):=⟨_,rfl⟩
 replace H:((bellpullref01_In.f a0 0 10).bind fun t331=>(if t331=true then ((bellpullref01_In.f a0 0 16).bind fun t332=>(if t332=true then ((bellpulllaw02_lives.f k).bind fun t333=>(bellpulllaw02_EchoWords.j0 k a0 t322 t325 t326 t327 y328 (!t333))) else (if t326=0 then (if t327=1 then ((bellpulllaw02_lives.f k).bind fun t334=>(bellpulllaw02_EchoWords.j0 k a0 t322 t325 t326 t327 y328 (!t334))) else (none)) else (none)))) else (if (t322.length:Int)=0 then (if t325=1 then ((bellpullref01_In.f a0 0 16).bind fun t335=>(if t335=true then ((bellpulllaw02_lives.f k).bind fun t336=>(bellpulllaw02_EchoWords.j0 k a0 t322 t325 t326 t327 y328 (!t336))) else (if t326=0 then (if t327=1 then ((bellpulllaw02_lives.f k).bind fun t337=>(bellpulllaw02_EchoWords.j0 k a0 t322 t325 t326 t327 y328 (!t337))) else (none)) else (none)))) else (none)) else (none))))=some r:=by first|(rw [hy328];with_reducible exact H)|(have H2_:=(Option.bind_some _ _).symm.trans H;rw [hy328];with_reducible exact H2_)|(have H2_:=(Option.bind_some _ _).symm.trans H;with_reducible exact H2_)|with_reducible exact H|(rw [hy328];exact H)|exact H
 have Ny328:=mk0 hy328;clear hy328;have HC4:=mk0 H;clear H;go_enter Try.func13,Try.ntmps13;go_upto_region 4 with (first|((with_reducible refine gate_callee (f:=38) rfl ?_);refine goesL_ (some 11) rfl rfl Try.func38 (by kernel_rfl) rfl #[.int .i64 a0] rfl (by (try simp only [List.map_toArray,List.map_cons,List.map_nil]);first|done|rfl|(simp only [List.length_drop,List.length_take];rfl)) ?_;(with_reducible refine (echo_Words.calls k a0 t322 t325 _ A2.out).mono ?_);rintro e w5 ⟨v323,rfl,ho0,hb⟩;refine ⟨_,rfl,?_⟩;have HO324:=mk0 (Kd.V_lower (Kd.V_mono (ok':=fun k_=>True) ho0 (fun k_ hk_=>trivial)) (below_size (by repeat (first|(with_reducible first|exact HB.out|apply below_alloc|apply pw_below_drewN|apply below_drew1)|exact HB.out))));replace HB:=mk0 (below_step (by repeat (first|(with_reducible first|exact HB.out|apply below_alloc|apply pw_below_drewN|apply below_drew1)|exact HB.out)) hb);(try clear hb);(try clear hk);(try clear ho0))|((with_reducible refine gate_callee (f:=39) rfl ?_);refine goesL_ (some 16) rfl rfl Try.func39 (by kernel_rfl) rfl #[.int .i64 a0] rfl (by (try simp only [List.map_toArray,List.map_cons,List.map_nil]);first|done|rfl|(simp only [List.length_drop,List.length_take];rfl)) ?_;(with_reducible refine (echo_Count.calls k a0 t326 t327 _ A3.out).mono ?_);rintro e w6 ⟨rfl,hb⟩;refine ⟨_,rfl,?_⟩;replace HO324:=mk0 (Kd.V_below (by (with_reducible repeat (first|apply Kd.V_alloc|apply Kd.V_drewN|apply Kd.V_drew));exact HO324.out) hb);replace HB:=mk0 (below_step (by repeat (first|(with_reducible first|exact HB.out|apply below_alloc|apply pw_below_drewN|apply below_drew1)|exact HB.out)) hb);(try clear hb);(try clear hk))|((with_reducible refine gate_dst (N:=19) rfl ?_);(try (refine gate_guard (by rfl) ?_;dsimp only));refine Kd.R_lit (Kd.int .i64) _ 3 ?hg (N:=19) ?hd (xs:=([1,2,4,6,10,14,18]:List Int)) (inner:=[.int .i64 1,.int .i64 2,.int .i64 4,.int .i64 6,.int .i64 10,.int .i64 14,.int .i64 18]) (ok:=fun _=>True) (okp:=fun _=>True) ?hr ?hp (fun _ hk=>hk) trivial (Below.refl _ _) (Nat.le_refl _) (by simp) ?_;(case hd=>rfl);(case hg=>rfl);(case hr=>first|(go_simp;done)|(go_simp;rfl));(case hp=>exact (Reps.one (show Kd.M (Kd.int .i64) _ _ _ 1 [.int .i64 1] from rfl) (Reps.one (show Kd.M (Kd.int .i64) _ _ _ 2 [.int .i64 2] from rfl) (Reps.one (show Kd.M (Kd.int .i64) _ _ _ 4 [.int .i64 4] from rfl) (Reps.one (show Kd.M (Kd.int .i64) _ _ _ 6 [.int .i64 6] from rfl) (Reps.one (show Kd.M (Kd.int .i64) _ _ _ 10 [.int .i64 10] from rfl) (Reps.one (show Kd.M (Kd.int .i64) _ _ _ 14 [.int .i64 14] from rfl) (Reps.one (show Kd.M (Kd.int .i64) _ _ _ 18 [.int .i64 18] from rfl) (Reps.none _ _)))))))));intro v329 w7 ho8 hb hg_ hnew_;clear hg_ hnew_;(first|rw [← Ny328.out] at ho8|(simp only [Int.reduceToNat] at ho8;rw [← Ny328.out] at ho8));have HO330:=mk0 (Kd.R_lower ho8 (below_size (by repeat (first|(with_reducible first|exact HB.out|apply below_alloc|apply pw_below_drewN|apply below_drew1)|exact HB.out))));replace HO324:=mk0 (Kd.V_elder' (by (with_reducible repeat (first|apply Kd.V_alloc|apply Kd.V_drewN|apply Kd.V_drew));exact HO324.out) (Kd.R_base ho8) hb);replace HB:=mk0 (below_step (by repeat (first|(with_reducible first|exact HB.out|apply below_alloc|apply pw_below_drewN|apply below_drew1)|exact HB.out)) hb);clear hb ho8));(try simp only [Act.put,List.setIfInBounds_toArray,List.set_cons_zero,List.set_cons_succ])
 go_cut [48] (fun v48 wc=>∃ (kq:Nat) (x48_3:Bool),v48=.bool x48_3∧Aside0 (bellpulllaw02_EchoWords.j0 kq a0 t322 t325 t326 t327 y328 x48_3=some r)∧Aside0 (kq ≤ k)∧Aside0 (Kd.V (Kd.slice 3 (Kd.int .i64)) 22 wc w.heap.size (fun k_=>some k_ ≠ (v329:Value).ownBlock) v323 t322)∧Aside0 (Kd.R (Kd.int .i64) 3 wc w.heap.size (fun _=>True) v329 y328)∧Aside0 (Below w.heap.size w wc))
 case first =>
  have H:=HC4.out;clear HC4;replace H:=Option.bind_eq_some_iff.mp H;obtain ⟨t331,A90,H⟩:=H;(try dsimp only at H);have A9:=mk0 A90;clear A90
  by_cases c10:t331=true
  ·
   subst c10;have H1:((bellpullref01_In.f a0 0 16).bind fun t332=>(if t332=true then ((bellpulllaw02_lives.f k).bind fun t333=>(bellpulllaw02_EchoWords.j0 k a0 t322 t325 t326 t327 y328 (!t333))) else (if t326=0 then (if t327=1 then ((bellpulllaw02_lives.f k).bind fun t334=>(bellpulllaw02_EchoWords.j0 k a0 t322 t325 t326 t327 y328 (!t334))) else (none)) else (none))))=some r:=by rw [if_pos rfl] at H;exact H
   clear H;have H:=H1;clear H1;replace H:=Option.bind_eq_some_iff.mp H;obtain ⟨t332,A110,H⟩:=H;(try dsimp only at H);have A11:=mk0 A110;clear A110
   by_cases c12:t332=true
   ·
    subst c12;have H1:((bellpulllaw02_lives.f k).bind fun t333=>(bellpulllaw02_EchoWords.j0 k a0 t322 t325 t326 t327 y328 (!t333)))=some r:=by rw [if_pos rfl] at H;exact H
    clear H;have H:=H1;clear H1;replace H:=Option.bind_eq_some_iff.mp H;obtain ⟨t333,A130,H⟩:=H;(try dsimp only at H);have A13:=mk0 A130;clear A130;have H':=mk0 H;clear H;go_wp2_with (first|((with_reducible refine gate_callee (f:=18) rfl ?_);refine goesL_ (some 21) rfl rfl Try.func18 (by kernel_rfl) rfl #[.int .i64 a0,.int .i64 0,.int .i64 10] rfl (by (try simp only [List.map_toArray,List.map_cons,List.map_nil]);first|done|rfl|(simp only [List.length_drop,List.length_take];rfl)) ?_;(with_reducible refine (bellpullref01_In.calls a0 0 10 true _ A9.out).mono ?_);rintro e w' ⟨rfl,⟨nd,rfl⟩⟩;refine ⟨_,rfl,?_⟩)|(go_at_call 18;(with_reducible refine (bellpullref01_In.calls a0 0 16 true _ A11.out).mono ?_);rintro e w' ⟨rfl,⟨nd,rfl⟩⟩)|(go_at_call 19;(with_reducible refine (bellpulllaw02_lives.calls k  t333 _ A13.out).mono ?_);rintro e w14 ⟨rfl,hb⟩;replace HO324:=mk0 (Kd.V_below (by (with_reducible repeat (first|apply Kd.V_alloc|apply Kd.V_drewN|apply Kd.V_drew));exact HO324.out) hb);replace HO330:=mk0 (Kd.R_below (by (with_reducible repeat (first|apply Kd.R_alloc|apply Kd.R_drewN|apply Kd.R_drew));exact HO330.out) hb);replace HB:=mk0 (below_step (by repeat (first|(with_reducible first|exact HB.out|apply below_alloc|apply pw_below_drewN|apply below_drew1)|exact HB.out)) hb);(try clear hb)));go_meet
    case rel=>exact ⟨_,(!t333),(by first|rfl|(simp;done)|(simp [*];done)),H',⟨by first|omega|exact Nat.le_refl _⟩,⟨by (with_reducible repeat (first|apply Kd.V_alloc|apply Kd.V_drewN|apply Kd.V_drew));exact Kd.V_mono HO324.out (fun _ hk=>hk.2)⟩,⟨by (with_reducible repeat (first|apply Kd.R_alloc|apply Kd.R_drewN|apply Kd.R_drew));exact HO330.out⟩,⟨by repeat (first|(with_reducible first|exact HB.out|apply below_alloc|apply pw_below_drewN|apply below_drew1)|exact HB.out)⟩⟩
   ·
    replace c12:=Bool.eq_false_iff.mpr c12;subst c12;have H1:(if t326=0 then (if t327=1 then ((bellpulllaw02_lives.f k).bind fun t334=>(bellpulllaw02_EchoWords.j0 k a0 t322 t325 t326 t327 y328 (!t334))) else (none)) else (none))=some r:=by rw [if_neg (show ¬ (false=true) by decide)] at H;exact H
    clear H;have H:=H1;clear H1
    by_cases c15:t326=0
    ·
     rw [if_pos c15] at H;have c15b0:(t326 == 0)=true:=beq_iff_eq.mpr c15;have c15b1:(t326 != 0)=false:=bne_eq_false_iff_eq.mpr c15;clear c15;(first|rw [c15b0]|(simp only [i64_w,i32_w];rw [c15b0])|skip)
     by_cases c16:t327=1
     ·
      rw [if_pos c16] at H;have c16b0:(t327 == 1)=true:=beq_iff_eq.mpr c16;have c16b1:(t327 != 1)=false:=bne_eq_false_iff_eq.mpr c16;clear c16;replace H:=Option.bind_eq_some_iff.mp H;obtain ⟨t334,A170,H⟩:=H;(try dsimp only at H);have A17:=mk0 A170;clear A170;have H':=mk0 H;clear H;go_wp2_with (first|((with_reducible refine gate_callee (f:=18) rfl ?_);refine goesL_ (some 21) rfl rfl Try.func18 (by kernel_rfl) rfl #[.int .i64 a0,.int .i64 0,.int .i64 10] rfl (by (try simp only [List.map_toArray,List.map_cons,List.map_nil]);first|done|rfl|(simp only [List.length_drop,List.length_take];rfl)) ?_;(with_reducible refine (bellpullref01_In.calls a0 0 10 true _ A9.out).mono ?_);rintro e w' ⟨rfl,⟨nd,rfl⟩⟩;refine ⟨_,rfl,?_⟩)|(go_at_call 18;(with_reducible refine (bellpullref01_In.calls a0 0 16 false _ A11.out).mono ?_);rintro e w' ⟨rfl,⟨nd,rfl⟩⟩)|(go_at_call 19;(with_reducible refine (bellpulllaw02_lives.calls k  t334 _ A17.out).mono ?_);rintro e w18 ⟨rfl,hb⟩;replace HO324:=mk0 (Kd.V_below (by (with_reducible repeat (first|apply Kd.V_alloc|apply Kd.V_drewN|apply Kd.V_drew));exact HO324.out) hb);replace HO330:=mk0 (Kd.R_below (by (with_reducible repeat (first|apply Kd.R_alloc|apply Kd.R_drewN|apply Kd.R_drew));exact HO330.out) hb);replace HB:=mk0 (below_step (by repeat (first|(with_reducible first|exact HB.out|apply below_alloc|apply pw_below_drewN|apply below_drew1)|exact HB.out)) hb);(try clear hb)));go_meet
      case rel=>exact ⟨_,(!t334),(by first|rfl|(simp;done)|(simp [*];done)),H',⟨by first|omega|exact Nat.le_refl _⟩,⟨by (with_reducible repeat (first|apply Kd.V_alloc|apply Kd.V_drewN|apply Kd.V_drew));exact Kd.V_mono HO324.out (fun _ hk=>hk.2)⟩,⟨by (with_reducible repeat (first|apply Kd.R_alloc|apply Kd.R_drewN|apply Kd.R_drew));exact HO330.out⟩,⟨by repeat (first|(with_reducible first|exact HB.out|apply below_alloc|apply pw_below_drewN|apply below_drew1)|exact HB.out)⟩⟩
     ·
      rw [if_neg c16] at H;exact absurd H (by simp)
    ·
     rw [if_neg c15] at H;exact absurd H (by simp)
  ·
   replace c10:=Bool.eq_false_iff.mpr c10;subst c10;have H1:(if (t322.length:Int)=0 then (if t325=1 then ((bellpullref01_In.f a0 0 16).bind fun t335=>(if t335=true then ((bellpulllaw02_lives.f k).bind fun t336=>(bellpulllaw02_EchoWords.j0 k a0 t322 t325 t326 t327 y328 (!t336))) else (if t326=0 then (if t327=1 then ((bellpulllaw02_lives.f k).bind fun t337=>(bellpulllaw02_EchoWords.j0 k a0 t322 t325 t326 t327 y328 (!t337))) else (none)) else (none)))) else (none)) else (none))=some r:=by rw [if_neg (show ¬ (false=true) by decide)] at H;exact H
   clear H;have H:=H1;clear H1
   by_cases c19:(t322.length:Int)=0
   ·
    rw [if_pos c19] at H;have c19b0:((t322.length:Int) == 0)=true:=beq_iff_eq.mpr c19;have c19b1:((t322.length:Int) != 0)=false:=bne_eq_false_iff_eq.mpr c19;clear c19
    by_cases c20:t325=1
    ·
     rw [if_pos c20] at H;have c20b0:(t325 == 1)=true:=beq_iff_eq.mpr c20;have c20b1:(t325 != 1)=false:=bne_eq_false_iff_eq.mpr c20;clear c20;replace H:=Option.bind_eq_some_iff.mp H;obtain ⟨t335,A210,H⟩:=H;(try dsimp only at H);have A21:=mk0 A210;clear A210
     by_cases c22:t335=true
     ·
      subst c22;have H1:((bellpulllaw02_lives.f k).bind fun t336=>(bellpulllaw02_EchoWords.j0 k a0 t322 t325 t326 t327 y328 (!t336)))=some r:=by rw [if_pos rfl] at H;exact H
      clear H;have H:=H1;clear H1;replace H:=Option.bind_eq_some_iff.mp H;obtain ⟨t336,A230,H⟩:=H;(try dsimp only at H);have A23:=mk0 A230;clear A230;have H':=mk0 H;clear H;go_wp2_with (first|((with_reducible refine gate_callee (f:=18) rfl ?_);refine goesL_ (some 21) rfl rfl Try.func18 (by kernel_rfl) rfl #[.int .i64 a0,.int .i64 0,.int .i64 10] rfl (by (try simp only [List.map_toArray,List.map_cons,List.map_nil]);first|done|rfl|(simp only [List.length_drop,List.length_take];rfl)) ?_;(with_reducible refine (bellpullref01_In.calls a0 0 10 false _ A9.out).mono ?_);rintro e w' ⟨rfl,⟨nd,rfl⟩⟩;refine ⟨_,rfl,?_⟩;obtain ⟨Ao24,co24,eo24⟩:=Kd.V_slice HO324.out;subst eo24)|(go_at_call 18;(with_reducible refine (bellpullref01_In.calls a0 0 16 true _ A21.out).mono ?_);rintro e w' ⟨rfl,⟨nd,rfl⟩⟩)|(go_at_call 19;(with_reducible refine (bellpulllaw02_lives.calls k  t336 _ A23.out).mono ?_);rintro e w25 ⟨rfl,hb⟩;replace HO324:=mk0 (Kd.V_below (by (with_reducible repeat (first|apply Kd.V_alloc|apply Kd.V_drewN|apply Kd.V_drew));exact HO324.out) hb);replace HO330:=mk0 (Kd.R_below (by (with_reducible repeat (first|apply Kd.R_alloc|apply Kd.R_drewN|apply Kd.R_drew));exact HO330.out) hb);replace HB:=mk0 (below_step (by repeat (first|(with_reducible first|exact HB.out|apply below_alloc|apply pw_below_drewN|apply below_drew1)|exact HB.out)) hb);(try clear hb)));go_meet
      case rel=>exact ⟨_,(!t336),(by first|rfl|(simp;done)|(simp [*];done)),H',⟨by first|omega|exact Nat.le_refl _⟩,⟨by (with_reducible repeat (first|apply Kd.V_alloc|apply Kd.V_drewN|apply Kd.V_drew));exact Kd.V_mono HO324.out (fun _ hk=>hk.2)⟩,⟨by (with_reducible repeat (first|apply Kd.R_alloc|apply Kd.R_drewN|apply Kd.R_drew));exact HO330.out⟩,⟨by repeat (first|(with_reducible first|exact HB.out|apply below_alloc|apply pw_below_drewN|apply below_drew1)|exact HB.out)⟩⟩
     ·
      replace c22:=Bool.eq_false_iff.mpr c22;subst c22;have H1:(if t326=0 then (if t327=1 then ((bellpulllaw02_lives.f k).bind fun t337=>(bellpulllaw02_EchoWords.j0 k a0 t322 t325 t326 t327 y328 (!t337))) else (none)) else (none))=some r:=by rw [if_neg (show ¬ (false=true) by decide)] at H;exact H
      clear H;have H:=H1;clear H1
      by_cases c26:t326=0
      ·
       rw [if_pos c26] at H;have c26b0:(t326 == 0)=true:=beq_iff_eq.mpr c26;have c26b1:(t326 != 0)=false:=bne_eq_false_iff_eq.mpr c26;clear c26
       by_cases c27:t327=1
       ·
        rw [if_pos c27] at H;have c27b0:(t327 == 1)=true:=beq_iff_eq.mpr c27;have c27b1:(t327 != 1)=false:=bne_eq_false_iff_eq.mpr c27;clear c27;replace H:=Option.bind_eq_some_iff.mp H;obtain ⟨t337,A280,H⟩:=H;(try dsimp only at H);have A28:=mk0 A280;clear A280;have H':=mk0 H;clear H;go_wp2_with (first|((with_reducible refine gate_callee (f:=18) rfl ?_);refine goesL_ (some 21) rfl rfl Try.func18 (by kernel_rfl) rfl #[.int .i64 a0,.int .i64 0,.int .i64 10] rfl (by (try simp only [List.map_toArray,List.map_cons,List.map_nil]);first|done|rfl|(simp only [List.length_drop,List.length_take];rfl)) ?_;(with_reducible refine (bellpullref01_In.calls a0 0 10 false _ A9.out).mono ?_);rintro e w' ⟨rfl,⟨nd,rfl⟩⟩;refine ⟨_,rfl,?_⟩;obtain ⟨Ao29,co29,eo29⟩:=Kd.V_slice HO324.out;subst eo29)|(go_at_call 18;(with_reducible refine (bellpullref01_In.calls a0 0 16 false _ A21.out).mono ?_);rintro e w' ⟨rfl,⟨nd,rfl⟩⟩)|(go_at_call 19;(with_reducible refine (bellpulllaw02_lives.calls k  t337 _ A28.out).mono ?_);rintro e w30 ⟨rfl,hb⟩;replace HO324:=mk0 (Kd.V_below (by (with_reducible repeat (first|apply Kd.V_alloc|apply Kd.V_drewN|apply Kd.V_drew));exact HO324.out) hb);replace HO330:=mk0 (Kd.R_below (by (with_reducible repeat (first|apply Kd.R_alloc|apply Kd.R_drewN|apply Kd.R_drew));exact HO330.out) hb);replace HB:=mk0 (below_step (by repeat (first|(with_reducible first|exact HB.out|apply below_alloc|apply pw_below_drewN|apply below_drew1)|exact HB.out)) hb);(try clear hb)));go_meet
        case rel=>exact ⟨_,(!t337),(by first|rfl|(simp;done)|(simp [*];done)),H',⟨by first|omega|exact Nat.le_refl _⟩,⟨by (with_reducible repeat (first|apply Kd.V_alloc|apply Kd.V_drewN|apply Kd.V_drew));exact Kd.V_mono HO324.out (fun _ hk=>hk.2)⟩,⟨by (with_reducible repeat (first|apply Kd.R_alloc|apply Kd.R_drewN|apply Kd.R_drew));exact HO330.out⟩,⟨by repeat (first|(with_reducible first|exact HB.out|apply below_alloc|apply pw_below_drewN|apply below_drew1)|exact HB.out)⟩⟩
       ·
        rw [if_neg c27] at H;exact absurd H (by simp)
      ·
       rw [if_neg c26] at H;exact absurd H (by simp)
    ·
     rw [if_neg c20] at H;exact absurd H (by simp)
   ·
    rw [if_neg c19] at H;exact absurd H (by simp)
 case rest =>
  clear HC4;try clear c1
  try clear c2
  try clear p2
  try clear c3
  try clear c10
  try clear c12
  try clear c13
  try clear c15
  try clear c15b0
  try clear c15b1
  try clear c16
  try clear c16b0
  try clear c16b1
  try clear c18
  try clear c19
  try clear c19b0
  try clear c19b1
  try clear c20
  try clear c20b0
  try clear c20b1
  try clear c22
  try clear c26
  try clear c26b0
  try clear c26b1
  try clear c27
  try clear c27b0
  try clear c27b1
  obtain ⟨kq,x48_3,rfl,HA,HJ3,HO_3,HO_7,HB⟩:=hcut;cases kq with
  | zero=>exact absurd HA.out (by simp [bellpulllaw02_EchoWords.j0])
  | succ kj3 =>
   have H:=HA.out;clear HA;simp only [bellpulllaw02_EchoWords.j0] at H
   by_cases c31:x48_3=true
   ·
    subst c31;have H1:(none)=some r:=by rw [if_pos rfl] at H;exact H
    clear H;have H:=H1;clear H1;exact absurd H (by simp)
   ·
    replace c31:=Bool.eq_false_iff.mpr c31;subst c31;have H1:((bellpullref01_In.f a0 0 10).bind fun t338=>(if t338=true then ((bellpullref02_Words.f kj3 a0).bind fun t339=>((bellpullref01_SameLists.f kj3 t322 t339).bind fun t342=>(if t342=true then (if t325=0 then (if t326=(t339.length:Int) then (if a0 < 7 then (if 0 ≤ a0 then (if a0 < (y328.length:Int) then (bellpulllaw02_EchoWords.j1 kj3 a0 t326 t327 (t326 != (rd y328 a0))) else (none)) else (none)) else (bellpulllaw02_EchoWords.j1 kj3 a0 t326 t327 false)) else (none)) else (none)) else (none)))) else ((bellpullref01_In.f a0 0 16).bind fun t348=>(if t348=true then (if t327=0 then ((bellpullref02_Words.f kj3 a0).bind fun t349=>(some (t326 == (t349.length:Int)))) else (none)) else (some true)))))=some r:=by rw [if_neg (show ¬ (false=true) by decide)] at H;exact H
    clear H;have H:=H1;clear H1;replace H:=Option.bind_eq_some_iff.mp H;obtain ⟨t338,A320,H⟩:=H;(try dsimp only at H);have A32:=mk0 A320;clear A320
    by_cases c33:t338=true
    ·
     subst c33;have H1:((bellpullref02_Words.f kj3 a0).bind fun t339=>((bellpullref01_SameLists.f kj3 t322 t339).bind fun t342=>(if t342=true then (if t325=0 then (if t326=(t339.length:Int) then (if a0 < 7 then (if 0 ≤ a0 then (if a0 < (y328.length:Int) then (bellpulllaw02_EchoWords.j1 kj3 a0 t326 t327 (t326 != (rd y328 a0))) else (none)) else (none)) else (bellpulllaw02_EchoWords.j1 kj3 a0 t326 t327 false)) else (none)) else (none)) else (none))))=some r:=by rw [if_pos rfl] at H;exact H
     clear H;have H:=H1;clear H1;replace H:=Option.bind_eq_some_iff.mp H;obtain ⟨t339,A340,H⟩:=H;(try dsimp only at H);have A34:=mk0 A340;clear A340;have HC35:=mk0 H;clear H;go_upto_region 8 with (first|((with_reducible refine gate_callee (f:=18) rfl ?_);refine goesL_ (some 50) rfl rfl Try.func18 (by kernel_rfl) rfl #[.int .i64 a0,.int .i64 0,.int .i64 10] rfl (by (try simp only [List.map_toArray,List.map_cons,List.map_nil]);first|done|rfl|(simp only [List.length_drop,List.length_take];rfl)) ?_;(with_reducible refine (bellpullref01_In.calls a0 0 10 true _ A32.out).mono ?_);rintro e w' ⟨rfl,⟨nd,rfl⟩⟩;refine ⟨_,rfl,?_⟩)|((with_reducible refine gate_callee (f:=40) rfl ?_);refine goesL_ (some 52) rfl rfl Try.func40 (by kernel_rfl) rfl #[.int .i64 a0] rfl (by (try simp only [List.map_toArray,List.map_cons,List.map_nil]);first|done|rfl|(simp only [List.length_drop,List.length_take];rfl)) ?_;(with_reducible refine (bellpullref02_Words.calls kj3 a0 t339 _ A34.out).mono ?_);rintro e w36 ⟨v340,rfl,ho0,hb⟩;refine ⟨_,rfl,?_⟩;have HO341:=mk0 (Kd.N_lower (Kd.N_mono (ok':=fun k_=>some k_ ≠ (v329:Value).ownBlock) ho0 (fun k_ hk_=>(Kd.fresh' (Kd.R_lt (by (with_reducible repeat (first|apply Kd.R_alloc|apply Kd.R_drewN|apply Kd.R_drew));exact HO_7.out)) k_ hk_))) (below_size (by repeat (first|(with_reducible first|exact HB.out|apply below_alloc|apply pw_below_drewN|apply below_drew1)|exact HB.out))));replace HO_3:=mk0 (Kd.V_elder' (by (with_reducible repeat (first|apply Kd.V_alloc|apply Kd.V_drewN|apply Kd.V_drew));exact HO_3.out) (Kd.N_base ho0) hb);replace HO_7:=mk0 (Kd.R_below (by (with_reducible repeat (first|apply Kd.R_alloc|apply Kd.R_drewN|apply Kd.R_drew));exact HO_7.out) hb);replace HB:=mk0 (below_step (by repeat (first|(with_reducible first|exact HB.out|apply below_alloc|apply pw_below_drewN|apply below_drew1)|exact HB.out)) hb);(try clear hb);(try clear ho0)));(try simp only [Act.put,List.setIfInBounds_toArray,List.set_cons_zero,List.set_cons_succ])
     go_cut [78] (fun v78 wc=>∃ (kq:Nat) (x78_34:Bool),v78=.bool x78_34∧Aside0 (bellpulllaw02_EchoWords.j1 kq a0 t326 t327 x78_34=some r)∧Aside0 (kq ≤ kj3)∧Aside0 (Below w.heap.size w wc))
     case first =>
      have H:=HC35.out;clear HC35;replace H:=Option.bind_eq_some_iff.mp H;obtain ⟨t342,A370,H⟩:=H;(try dsimp only at H);have A37:=mk0 A370;clear A370
      by_cases c38:t342=true
      ·
       subst c38;have H1:(if t325=0 then (if t326=(t339.length:Int) then (if a0 < 7 then (if 0 ≤ a0 then (if a0 < (y328.length:Int) then (bellpulllaw02_EchoWords.j1 kj3 a0 t326 t327 (t326 != (rd y328 a0))) else (none)) else (none)) else (bellpulllaw02_EchoWords.j1 kj3 a0 t326 t327 false)) else (none)) else (none))=some r:=by rw [if_pos rfl] at H;exact H
       clear H;have H:=H1;clear H1
       by_cases c39:t325=0
       ·
        rw [if_pos c39] at H;have c39b0:(t325 == 0)=true:=beq_iff_eq.mpr c39;have c39b1:(t325 != 0)=false:=bne_eq_false_iff_eq.mpr c39;clear c39;(first|rw [c39b0]|(simp only [i64_w,i32_w];rw [c39b0])|skip)
        by_cases c40:t326=(t339.length:Int)
        ·
         rw [if_pos c40] at H;have c40b0:(t326 == (t339.length:Int))=true:=beq_iff_eq.mpr c40;have c40b1:(t326 != (t339.length:Int))=false:=bne_eq_false_iff_eq.mpr c40;clear c40
         by_cases c41:a0 < 7
         ·
          rw [if_pos c41] at H;have c41b0:decide (a0 < 7)=true:=decide_eq_true c41;clear c41
          by_cases c42:0 ≤ a0
          ·
           rw [if_pos c42] at H;have c42b0:decide (0 ≤ a0)=true:=decide_eq_true c42;clear c42
           by_cases c43:a0 < (y328.length:Int)
           ·
            rw [if_pos c43] at H;have c43b0:decide (a0 < (y328.length:Int))=true:=decide_eq_true c43;clear c43;have H':=mk0 H;clear H;obtain ⟨Ao44,co44,eo44⟩:=Kd.V_slice HO_3.out;subst eo44;obtain ⟨Ao45,co45,eo45⟩:=Kd.N_slice HO341.out;subst eo45;go_wp2_with (first|((with_reducible refine gate_callee (f:=41) rfl ?_);refine goesL_ (some 55) rfl rfl Try.func41 (by kernel_rfl) rfl #[.slice Ao44 t322.length co44,.slice Ao45 t339.length co45] rfl (by (try simp only [List.map_toArray,List.map_cons,List.map_nil]);first|done|rfl|(simp only [List.length_drop,List.length_take];rfl)) ?_;(with_reducible refine (bellpullref01_SameLists.calls kj3 _ _ t322 _ _ t339 true _ ?side1 ?side2 ?side3 ?side4 A37.out).mono ?_);(case side1=>repeat (first|exact (Kd.V_reads' HO_3.out).2.2|(with_reducible refine Kd.C_alloc ?_ _)|(with_reducible refine Kd.C_drewN ?_ _)|(with_reducible refine Kd.C_drew ?_)));(case side2=>exact (Kd.V_reads' HO_3.out).2.1);(case side3=>repeat (first|exact (Kd.N_reads' HO341.out).2.2|(with_reducible refine Kd.C_alloc ?_ _)|(with_reducible refine Kd.C_drewN ?_ _)|(with_reducible refine Kd.C_drew ?_)));(case side4=>exact (Kd.N_reads' HO341.out).2.1);rintro e w' ⟨rfl,⟨nd,rfl⟩⟩;refine ⟨_,rfl,?_⟩;obtain ⟨Ao46,co46,eo46⟩:=Kd.R_slice HO_7.out;subst eo46;have p343:0 ≤ (a0:Int):=of_decide_eq_true (by first|(with_reducible assumption)|assumption);have q343:a0 < (y328.length:Int):=of_decide_eq_true (by first|(with_reducible assumption)|assumption);obtain ⟨ad343,e343,hx343_0⟩:=Kd.at_int (Kd.R_reads' HO_7.out).2.2 a0 p343 q343;cases e343;replace p343:=eq_true p343;replace q343:=eq_true q343));go_meet
            case rel=>exact ⟨_,((t326 != (rd y328 a0))),(by first|rfl|(simp;done)|(simp [*];done)),H',⟨by have:=HJ3.out;first|omega|exact Nat.le_refl _⟩,⟨by repeat (first|(with_reducible first|exact HB.out|apply below_alloc|apply pw_below_drewN|apply below_drew1)|exact HB.out)⟩⟩
           ·
            rw [if_neg c43] at H;exact absurd H (by simp)
          ·
           rw [if_neg c42] at H;exact absurd H (by simp)
         ·
          rw [if_neg c41] at H;have c41b0:decide (a0 < 7)=false:=decide_eq_false c41;clear c41;have H':=mk0 H;clear H;obtain ⟨Ao47,co47,eo47⟩:=Kd.V_slice HO_3.out;subst eo47;obtain ⟨Ao48,co48,eo48⟩:=Kd.N_slice HO341.out;subst eo48;go_wp2_with (first|((with_reducible refine gate_callee (f:=41) rfl ?_);refine goesL_ (some 55) rfl rfl Try.func41 (by kernel_rfl) rfl #[.slice Ao47 t322.length co47,.slice Ao48 t339.length co48] rfl (by (try simp only [List.map_toArray,List.map_cons,List.map_nil]);first|done|rfl|(simp only [List.length_drop,List.length_take];rfl)) ?_;(with_reducible refine (bellpullref01_SameLists.calls kj3 _ _ t322 _ _ t339 true _ ?side1 ?side2 ?side3 ?side4 A37.out).mono ?_);(case side1=>repeat (first|exact (Kd.V_reads' HO_3.out).2.2|(with_reducible refine Kd.C_alloc ?_ _)|(with_reducible refine Kd.C_drewN ?_ _)|(with_reducible refine Kd.C_drew ?_)));(case side2=>exact (Kd.V_reads' HO_3.out).2.1);(case side3=>repeat (first|exact (Kd.N_reads' HO341.out).2.2|(with_reducible refine Kd.C_alloc ?_ _)|(with_reducible refine Kd.C_drewN ?_ _)|(with_reducible refine Kd.C_drew ?_)));(case side4=>exact (Kd.N_reads' HO341.out).2.1);rintro e w' ⟨rfl,⟨nd,rfl⟩⟩;refine ⟨_,rfl,?_⟩));go_meet
          case rel=>exact ⟨_,(false),(by first|rfl|(simp;done)|(simp [*];done)),H',⟨by have:=HJ3.out;first|omega|exact Nat.le_refl _⟩,⟨by repeat (first|(with_reducible first|exact HB.out|apply below_alloc|apply pw_below_drewN|apply below_drew1)|exact HB.out)⟩⟩
        ·
         rw [if_neg c40] at H;exact absurd H (by simp)
       ·
        rw [if_neg c39] at H;exact absurd H (by simp)
      ·
       replace c38:=Bool.eq_false_iff.mpr c38;subst c38;have H1:(none)=some r:=by rw [if_neg (show ¬ (false=true) by decide)] at H;exact H
       clear H;have H:=H1;clear H1;exact absurd H (by simp)
     case rest =>
      clear HC35;try clear c1
      try clear c2
      try clear p2
      try clear c3
      try clear p3
      try clear q3
      try clear hx3
      try clear c4
      try clear c10
      try clear c12
      try clear c13
      try clear c15
      try clear c15b0
      try clear c15b1
      try clear c16
      try clear c16b0
      try clear c16b1
      try clear c18
      try clear c19
      try clear c19b0
      try clear c19b1
      try clear c20
      try clear c20b0
      try clear c20b1
      try clear c22
      try clear c26
      try clear c26b0
      try clear c26b1
      try clear c27
      try clear c27b0
      try clear c27b1
      try clear c31
      try clear c33
      try clear p34
      try clear q34
      try clear hx34
      try clear c38
      try clear c39
      try clear c39b0
      try clear c39b1
      try clear c40
      try clear c40b0
      try clear c40b1
      try clear c41
      try clear c41b0
      try clear c42
      try clear c42b0
      try clear c43
      try clear c43b0
      try clear hx343_0
      try clear p2
      try clear p343
      try clear q343
      obtain ⟨kq,x78_34,rfl,HA,HJ34,HB⟩:=hcut;cases kq with
      | zero=>exact absurd HA.out (by simp [bellpulllaw02_EchoWords.j1])
      | succ kj34 =>
       have H:=HA.out;clear HA;simp only [bellpulllaw02_EchoWords.j1] at H
       by_cases c49:x78_34=true
       ·
        subst c49;have H1:(none)=some r:=by rw [if_pos rfl] at H;exact H
        clear H;have H:=H1;clear H1;exact absurd H (by simp)
       ·
        replace c49:=Bool.eq_false_iff.mpr c49;subst c49;have H1:((bellpullref01_In.f a0 0 16).bind fun t344=>(if t344=true then (if t327=0 then ((bellpullref02_Words.f kj34 a0).bind fun t345=>(some (t326 == (t345.length:Int)))) else (none)) else (some true)))=some r:=by rw [if_neg (show ¬ (false=true) by decide)] at H;exact H
        clear H;have H:=H1;clear H1;replace H:=Option.bind_eq_some_iff.mp H;obtain ⟨t344,A500,H⟩:=H;(try dsimp only at H);have A50:=mk0 A500;clear A500
        by_cases c51:t344=true
        ·
         subst c51;have H1:(if t327=0 then ((bellpullref02_Words.f kj34 a0).bind fun t345=>(some (t326 == (t345.length:Int)))) else (none))=some r:=by rw [if_pos rfl] at H;exact H
         clear H;have H:=H1;clear H1
         by_cases c52:t327=0
         ·
          rw [if_pos c52] at H;have c52b0:(t327 == 0)=true:=beq_iff_eq.mpr c52;have c52b1:(t327 != 0)=false:=bne_eq_false_iff_eq.mpr c52;clear c52;replace H:=Option.bind_eq_some_iff.mp H;obtain ⟨t345,A530,H⟩:=H;(try dsimp only at H);have A53:=mk0 A530;clear A530;obtain rfl:=Option.some.inj H;go_wp2_with (first|((with_reducible refine gate_callee (f:=18) rfl ?_);refine goesL_ (some 80) rfl rfl Try.func18 (by kernel_rfl) rfl #[.int .i64 a0,.int .i64 0,.int .i64 16] rfl (by (try simp only [List.map_toArray,List.map_cons,List.map_nil]);first|done|rfl|(simp only [List.length_drop,List.length_take];rfl)) ?_;(with_reducible refine (bellpullref01_In.calls a0 0 16 true _ A50.out).mono ?_);rintro e w' ⟨rfl,⟨nd,rfl⟩⟩;refine ⟨_,rfl,?_⟩)|(go_at_call 40;(with_reducible refine (bellpullref02_Words.calls kj34 a0 t345 _ A53.out).mono ?_);rintro e w54 ⟨v346,rfl,ho0,hb⟩;have HO347:=mk0 (Kd.N_lower (Kd.N_mono (ok':=fun k_=>True) ho0 (fun k_ hk_=>trivial)) (below_size (by repeat (first|(with_reducible first|exact HB.out|apply below_alloc|apply pw_below_drewN|apply below_drew1)|exact HB.out))));replace HB:=mk0 (below_step (by repeat (first|(with_reducible first|exact HB.out|apply below_alloc|apply pw_below_drewN|apply below_drew1)|exact HB.out)) hb);(try clear hb);(try clear ho0);obtain ⟨Ao55,co55,eo55⟩:=Kd.N_slice HO347.out;subst eo55));go_ret;exact ⟨by first|rfl|(simp [errW_none,errW_some] <;> rfl)|(simp [*,errW_none,errW_some] <;> rfl),by repeat (first|(with_reducible first|exact HB.out|apply below_alloc|apply pw_below_drewN|apply below_drew1)|exact HB.out)⟩
         ·
          rw [if_neg c52] at H;exact absurd H (by simp)
        ·
         replace c51:=Bool.eq_false_iff.mpr c51;subst c51;have H1:(some true)=some r:=by rw [if_neg (show ¬ (false=true) by decide)] at H;exact H
         clear H;have H:=H1;clear H1;obtain rfl:=Option.some.inj H;go_wp2_with (first|((with_reducible refine gate_callee (f:=18) rfl ?_);refine goesL_ (some 80) rfl rfl Try.func18 (by kernel_rfl) rfl #[.int .i64 a0,.int .i64 0,.int .i64 16] rfl (by (try simp only [List.map_toArray,List.map_cons,List.map_nil]);first|done|rfl|(simp only [List.length_drop,List.length_take];rfl)) ?_;(with_reducible refine (bellpullref01_In.calls a0 0 16 false _ A50.out).mono ?_);rintro e w' ⟨rfl,⟨nd,rfl⟩⟩;refine ⟨_,rfl,?_⟩));go_ret;exact ⟨by first|rfl|(simp [errW_none,errW_some] <;> rfl)|(simp [*,errW_none,errW_some] <;> rfl),by repeat (first|(with_reducible first|exact HB.out|apply below_alloc|apply pw_below_drewN|apply below_drew1)|exact HB.out)⟩
    ·
     replace c33:=Bool.eq_false_iff.mpr c33;subst c33;have H1:((bellpullref01_In.f a0 0 16).bind fun t348=>(if t348=true then (if t327=0 then ((bellpullref02_Words.f kj3 a0).bind fun t349=>(some (t326 == (t349.length:Int)))) else (none)) else (some true)))=some r:=by rw [if_neg (show ¬ (false=true) by decide)] at H;exact H
     clear H;have H:=H1;clear H1;replace H:=Option.bind_eq_some_iff.mp H;obtain ⟨t348,A560,H⟩:=H;(try dsimp only at H);have A56:=mk0 A560;clear A560
     by_cases c57:t348=true
     ·
      subst c57;have H1:(if t327=0 then ((bellpullref02_Words.f kj3 a0).bind fun t349=>(some (t326 == (t349.length:Int)))) else (none))=some r:=by rw [if_pos rfl] at H;exact H
      clear H;have H:=H1;clear H1
      by_cases c58:t327=0
      ·
       rw [if_pos c58] at H;have c58b0:(t327 == 0)=true:=beq_iff_eq.mpr c58;have c58b1:(t327 != 0)=false:=bne_eq_false_iff_eq.mpr c58;clear c58;replace H:=Option.bind_eq_some_iff.mp H;obtain ⟨t349,A590,H⟩:=H;(try dsimp only at H);have A59:=mk0 A590;clear A590;obtain rfl:=Option.some.inj H;go_wp2_with (first|((with_reducible refine gate_callee (f:=18) rfl ?_);refine goesL_ (some 50) rfl rfl Try.func18 (by kernel_rfl) rfl #[.int .i64 a0,.int .i64 0,.int .i64 10] rfl (by (try simp only [List.map_toArray,List.map_cons,List.map_nil]);first|done|rfl|(simp only [List.length_drop,List.length_take];rfl)) ?_;(with_reducible refine (bellpullref01_In.calls a0 0 10 false _ A32.out).mono ?_);rintro e w' ⟨rfl,⟨nd,rfl⟩⟩;refine ⟨_,rfl,?_⟩)|((with_reducible refine gate_callee (f:=18) rfl ?_);refine goesL_ (some 80) rfl rfl Try.func18 (by kernel_rfl) rfl #[.int .i64 a0,.int .i64 0,.int .i64 16] rfl (by (try simp only [List.map_toArray,List.map_cons,List.map_nil]);first|done|rfl|(simp only [List.length_drop,List.length_take];rfl)) ?_;(with_reducible refine (bellpullref01_In.calls a0 0 16 true _ A56.out).mono ?_);rintro e w' ⟨rfl,⟨nd,rfl⟩⟩;refine ⟨_,rfl,?_⟩)|(go_at_call 40;(with_reducible refine (bellpullref02_Words.calls kj3 a0 t349 _ A59.out).mono ?_);rintro e w60 ⟨v350,rfl,ho0,hb⟩;have HO351:=mk0 (Kd.N_lower (Kd.N_mono (ok':=fun k_=>some k_ ≠ (v329:Value).ownBlock) ho0 (fun k_ hk_=>(Kd.fresh' (Kd.R_lt (by (with_reducible repeat (first|apply Kd.R_alloc|apply Kd.R_drewN|apply Kd.R_drew));exact HO_7.out)) k_ hk_))) (below_size (by repeat (first|(with_reducible first|exact HB.out|apply below_alloc|apply pw_below_drewN|apply below_drew1)|exact HB.out))));replace HO_3:=mk0 (Kd.V_elder' (by (with_reducible repeat (first|apply Kd.V_alloc|apply Kd.V_drewN|apply Kd.V_drew));exact HO_3.out) (Kd.N_base ho0) hb);replace HO_7:=mk0 (Kd.R_below (by (with_reducible repeat (first|apply Kd.R_alloc|apply Kd.R_drewN|apply Kd.R_drew));exact HO_7.out) hb);replace HB:=mk0 (below_step (by repeat (first|(with_reducible first|exact HB.out|apply below_alloc|apply pw_below_drewN|apply below_drew1)|exact HB.out)) hb);(try clear hb);(try clear ho0);obtain ⟨Ao61,co61,eo61⟩:=Kd.N_slice HO351.out;subst eo61));go_ret;exact ⟨by first|rfl|(simp [errW_none,errW_some] <;> rfl)|(simp [*,errW_none,errW_some] <;> rfl),by repeat (first|(with_reducible first|exact HB.out|apply below_alloc|apply pw_below_drewN|apply below_drew1)|exact HB.out)⟩
      ·
       rw [if_neg c58] at H;exact absurd H (by simp)
     ·
      replace c57:=Bool.eq_false_iff.mpr c57;subst c57;have H1:(some true)=some r:=by rw [if_neg (show ¬ (false=true) by decide)] at H;exact H
      clear H;have H:=H1;clear H1;obtain rfl:=Option.some.inj H;go_wp2_with (first|((with_reducible refine gate_callee (f:=18) rfl ?_);refine goesL_ (some 50) rfl rfl Try.func18 (by kernel_rfl) rfl #[.int .i64 a0,.int .i64 0,.int .i64 10] rfl (by (try simp only [List.map_toArray,List.map_cons,List.map_nil]);first|done|rfl|(simp only [List.length_drop,List.length_take];rfl)) ?_;(with_reducible refine (bellpullref01_In.calls a0 0 10 false _ A32.out).mono ?_);rintro e w' ⟨rfl,⟨nd,rfl⟩⟩;refine ⟨_,rfl,?_⟩)|((with_reducible refine gate_callee (f:=18) rfl ?_);refine goesL_ (some 80) rfl rfl Try.func18 (by kernel_rfl) rfl #[.int .i64 a0,.int .i64 0,.int .i64 16] rfl (by (try simp only [List.map_toArray,List.map_cons,List.map_nil]);first|done|rfl|(simp only [List.length_drop,List.length_take];rfl)) ?_;(with_reducible refine (bellpullref01_In.calls a0 0 16 false _ A56.out).mono ?_);rintro e w' ⟨rfl,⟨nd,rfl⟩⟩;refine ⟨_,rfl,?_⟩));go_ret;exact ⟨by first|rfl|(simp [errW_none,errW_some] <;> rfl)|(simp [*,errW_none,errW_some] <;> rfl),by repeat (first|(with_reducible first|exact HB.out|apply below_alloc|apply pw_below_drewN|apply below_drew1)|exact HB.out)⟩
/-- THE ONE PURE STATEMENT of bellpulllaw02_EchoWords: yours. -/
def bellpulllaw02_EchoWords.Pure:Prop:=∀ (a0:Int),(Lit.int .i64 a0).wf=true → ∃ k,bellpulllaw02_EchoWords.f k a0=some true
theorem bellpulllaw02_EchoWords.walk (P:bellpulllaw02_EchoWords.Pure) (a0:Int) (w:World) (w0:(Lit.int .i64 a0).wf=true) :
    Calls Try.prog 13 #[.int .i64 a0] w fun e w'=>e=.returned (.bool true)∧Below w.heap.size w w':=by
  obtain ⟨k,h⟩:=P a0 w0
  refine (bellpulllaw02_EchoWords.calls k a0 true w h).mono ?_
  rintro e w' ⟨rfl,hd⟩
  exact ⟨rfl,hd⟩

end Go.Proofs.Ytploaicljkennaa.PW
