import Derived.Test.YtgfnmimfoicmmaaPMx0
import Derived.Test.YtgfnmimfoicmmaaPMx6
import Derived.Test.YtgfnmimfoicmmaaPMx19
namespace Go.Proofs.Ytgfnmimfoicmmaa.PM
open Go.Proofs.MyWords Go.RowKit Go.Proofs.YtgfnmimfoicmmaaW.PrintWords Go.Proofs.YtgfnmimfoicmmaaW.PrintLast Go.Proofs.YtgfnmimfoicmmaaW.PrintMore
set_option linter.unusedVariables false
set_option linter.unusedSimpArgs false
attribute [local go_sem] idx67_0 idx67_1 idx67_2 idx67_3
attribute [local go_sem] eqGuard_slices eqlnil36 neqnil36
/-! ### bellpullref04_Less: function 36 -/
def bellpullref04_Less.f (k:Nat) (a0_0:Int) (a0_1:Int) (a0_2:Int) (a0_3:Int) (a1_0:Int) (a1_1:Int) (a1_2:Int) (a1_3:Int):Option (Bool):=(bellpullref04_Parts.f a0_0 a0_1 a0_2 a0_3).bind fun t753=>((bellpullref04_Parts.f a1_0 a1_1 a1_2 a1_3).bind fun t756=>((bellpullref01_Before.f k t753 t756).bind fun t759=>(some t759)))
theorem bellpullref04_Less.mono:∀ a0 a1 a2 a3 a4 a5 a6 a7 k,LeO (bellpullref04_Less.f k a0 a1 a2 a3 a4 a5 a6 a7) (bellpullref04_Less.f (k + 1) a0 a1 a2 a3 a4 a5 a6 a7):=by
  intro a0 a1 a2 a3 a4 a5 a6 a7 k
  unfold bellpullref04_Less.f
  with_reducible repeat' first|exact bellpullref01_Before.mono _ _ _|exact LeO.refl _|exact LeO.none _|refine LeO.ite ?_ ?_|refine LeO.bind ?_ (fun _=>?_)
set_option maxHeartbeats 8000000 in
set_option maxRecDepth 100000 in
theorem bellpullref04_Less.calls (k:Nat) (a0_0:Int) (a0_1:Int) (a0_2:Int) (a0_3:Int) (a1_0:Int) (a1_1:Int) (a1_2:Int) (a1_3:Int) (r:Bool) (w:World) (h:bellpullref04_Less.f k a0_0 a0_1 a0_2 a0_3 a1_0 a1_1 a1_2 a1_3=some r) :
    Calls Try.prog 36 #[.agg #[.int .i64 a0_0,.int .i64 a0_1,.int .i64 a0_2,.int .i64 a0_3],.agg #[.int .i64 a1_0,.int .i64 a1_1,.int .i64 a1_2,.int .i64 a1_3]] w fun e w'=>e=.returned (.bool r)∧Below w.heap.size w w':=by
 have hu23:=Try.underlying23;have HB:=mk0 (Below.refl w.heap.size w);have H:((bellpullref04_Parts.f a0_0 a0_1 a0_2 a0_3).bind fun t753=>((bellpullref04_Parts.f a1_0 a1_1 a1_2 a1_3).bind fun t756=>((bellpullref01_Before.f k t753 t756).bind fun t759=>(some t759))))=some r:=h;clear h;replace H:=Option.bind_eq_some_iff.mp H;obtain ⟨t753,A30,H⟩:=H;(try dsimp only at H);have A3:=mk0 A30;clear A30;replace H:=Option.bind_eq_some_iff.mp H;obtain ⟨t756,A40,H⟩:=H;(try dsimp only at H);have A4:=mk0 A40;clear A40;replace H:=Option.bind_eq_some_iff.mp H;obtain ⟨t759,A50,H⟩:=H;(try dsimp only at H);have A5:=mk0 A50;clear A50;obtain rfl:=Option.some.inj H;go_enter Try.func36,Try.ntmps36;try go_wp2_with (first|((with_reducible refine gate_dst (N:=2) rfl ?_);refine box_event ?hg (N:=2) ?hd (cs:=#[.int .i64 a0_0,.int .i64 a0_1,.int .i64 a0_2,.int .i64 a0_3]) (t:=23) ?hr ?_;(case hd=>rfl);(case hg=>rfl);(case hr=>first|(go_simp;done)|(go_simp;rfl));intro gb751 hg w6 hbox hb;have BK751:=mk0 (hbox);have GW751:=szw hg HB;have GE751:=GW751;replace HB:=bst HB hb;clear hb hbox hg)|((with_reducible refine gate_dst (N:=3) rfl ?_);refine box_event ?hg (N:=3) ?hd (cs:=#[.int .i64 a1_0,.int .i64 a1_1,.int .i64 a1_2,.int .i64 a1_3]) (t:=23) ?hr ?_;(case hd=>rfl);(case hg=>rfl);(case hr=>first|(go_simp;done)|(go_simp;rfl));intro gb752 hg w7 hbox hb;have BK752:=mk0 (hbox);have GW752:=szw hg HB;have GE752:=GW752;have NB751_752:=nlt hg BK751;have NB752_751:=ngt hg BK751;replace BK751:=bkb BK751 hb;replace HB:=bst HB hb;clear hb hbox hg))
 replace BK751:=bdr BK751;replace BK752:=bdr BK752;replace HB:=hdr HB;refine start_ (n:=6) (S:=fun w'=>w'.cell? ⟨gb751,0,none⟩=some (.int .i64 a0_0)∧w'.cell? ⟨gb751,1,none⟩=some (.int .i64 a0_1)∧w'.cell? ⟨gb751,2,none⟩=some (.int .i64 a0_2)∧w'.cell? ⟨gb751,3,none⟩=some (.int .i64 a0_3)∧w'.cell? ⟨gb752,0,none⟩=some (.int .i64 a1_0)∧w'.cell? ⟨gb752,1,none⟩=some (.int .i64 a1_1)∧w'.cell? ⟨gb752,2,none⟩=some (.int .i64 a1_2)∧w'.cell? ⟨gb752,3,none⟩=some (.int .i64 a1_3)) (ds:=[]) #[false,false,false,false,false,false] (by kernel_rfl) rfl rfl ⟨(blk_cell BK751.out 0).trans rfl,(blk_cell BK751.out 1).trans rfl,(blk_cell BK751.out 2).trans rfl,(blk_cell BK751.out 3).trans rfl,(blk_cell BK752.out 0).trans rfl,(blk_cell BK752.out 1).trans rfl,(blk_cell BK752.out 2).trans rfl,(blk_cell BK752.out 3).trans rfl⟩ (fun hHeld=>?_);generalize w7.drew=w8 at BK751 BK752 HB hHeld ⊢;refine take_ (i:=0) (N:=some 5) (v:=?_) (a':=?_) #[true,false,false,false,false,false] rfl rfl (by kernel_rfl) (fun _ _ _ h=>h) (Or.inl ⟨by rfl,?_⟩) hHeld ?_ ?_;rotate_left
 ·
  rintro w' ⟨s0,s1,s2,s3,s4,s5,s6,s7⟩;go_simp;with_reducible rfl
 rotate_left
 ·
  simp only [Act.put,List.setIfInBounds_toArray,List.set_cons_zero,List.set_cons_succ,i64_w,i32_w];rfl
 refine take_ (i:=2) (N:=some 7) (v:=?_) (a':=?_) #[true,false,true,false,false,false] rfl rfl (by kernel_rfl) (fun _ _ _ h=>h) (Or.inl ⟨by rfl,?_⟩) hHeld ?_ ?_;rotate_left
 ·
  rintro w' ⟨s0,s1,s2,s3,s4,s5,s6,s7⟩;go_simp;with_reducible rfl
 rotate_left
 ·
  simp only [Act.put,List.setIfInBounds_toArray,List.set_cons_zero,List.set_cons_succ,i64_w,i32_w];rfl
 refine one_ (i:=1) (N:=some 6) #[true,true,true,false,false,false] rfl rfl (by kernel_rfl) (by decide) (fun K hK=>?_);refine goes_ Try.func45 (by kernel_rfl) rfl #[.agg #[.int .i64 a0_0,.int .i64 a0_1,.int .i64 a0_2,.int .i64 a0_3]] (by rfl) rfl rfl (by (try simp only [List.map_toArray,List.map_cons,List.map_nil]);first|done|rfl) ?_;with_reducible refine (bellpullref04_Parts.calls a0_0 a0_1 a0_2 a0_3 t753 _ A3.out).mono ?_
 rintro e w9 ⟨v754,rfl,ho0,hb⟩;refine ⟨_,rfl,?_⟩;have HO755:=mk0 (Kd.R_lower ho0 (below_size HB.out));replace BK751:=bkb BK751 hb;replace BK752:=bkb BK752 hb;replace HB:=bst HB hb;(try clear hb);(try clear ho0);refine hK.out _ _ ⟨(blk_cell BK751.out 0).trans rfl,(blk_cell BK751.out 1).trans rfl,(blk_cell BK751.out 2).trans rfl,(blk_cell BK751.out 3).trans rfl,(blk_cell BK752.out 0).trans rfl,(blk_cell BK752.out 1).trans rfl,(blk_cell BK752.out 2).trans rfl,(blk_cell BK752.out 3).trans rfl⟩ (fun hHeld=>?_);clear hK K;refine norm_ (a':=?_) ?_ ?_;rotate_left
 ·
  show Act.put _ (some 6) _=_;simp only [Act.put,List.setIfInBounds_toArray,List.set_cons_zero,List.set_cons_succ,i64_w,i32_w];rfl
 refine one_ (i:=3) (N:=some 8) #[true,true,true,true,false,false] rfl rfl (by kernel_rfl) (by decide) (fun K hK=>?_);refine goes_ Try.func45 (by kernel_rfl) rfl #[.agg #[.int .i64 a1_0,.int .i64 a1_1,.int .i64 a1_2,.int .i64 a1_3]] (by rfl) rfl rfl (by (try simp only [List.map_toArray,List.map_cons,List.map_nil]);first|done|rfl) ?_;with_reducible refine (bellpullref04_Parts.calls a1_0 a1_1 a1_2 a1_3 t756 _ A4.out).mono ?_
 rintro e w10 ⟨v757,rfl,ho0,hb⟩;refine ⟨_,rfl,?_⟩;have HO758:=mk0 (Kd.R_lower (Kd.R_new' ho0 (Kd.R_lt HO755.out)) (below_size HB.out));replace HO755:=mk0 (Kd.R_elder' HO755.out (Kd.R_base ho0) hb);replace BK751:=bkb BK751 hb;replace BK752:=bkb BK752 hb;replace HB:=bst HB hb;(try clear hb);(try clear ho0);obtain ⟨Ao11,co11,eo11⟩:=Kd.R_slice HO755.out;(first|subst eo11|(injection eo11 with f1_ f2_ f3_;have f4_:=f1_.symm;have f5_:=f3_.symm;clear f1_ f2_ f3_;subst f4_;subst f5_));obtain ⟨Ao12,co12,eo12⟩:=Kd.R_slice HO758.out;(first|subst eo12|(injection eo12 with f1_ f2_ f3_;have f4_:=f1_.symm;have f5_:=f3_.symm;clear f1_ f2_ f3_;subst f4_;subst f5_));refine hK.out _ _ ⟨(blk_cell BK751.out 0).trans rfl,(blk_cell BK751.out 1).trans rfl,(blk_cell BK751.out 2).trans rfl,(blk_cell BK751.out 3).trans rfl,(blk_cell BK752.out 0).trans rfl,(blk_cell BK752.out 1).trans rfl,(blk_cell BK752.out 2).trans rfl,(blk_cell BK752.out 3).trans rfl⟩ (fun hHeld=>?_);clear hK K;refine norm_ (a':=?_) ?_ ?_;rotate_left
 ·
  show Act.put _ (some 8) _=_;simp only [Act.put,List.setIfInBounds_toArray,List.set_cons_zero,List.set_cons_succ,i64_w,i32_w];rfl
 refine one_ (i:=4) (N:=some 9) #[true,true,true,true,true,false] rfl rfl (by kernel_rfl) (by decide) (fun K hK=>?_);refine goes_ Try.func60 (by kernel_rfl) rfl #[.slice Ao11 t753.length co11,.slice Ao12 t756.length co12] (by rfl) rfl rfl (by (try simp only [List.map_toArray,List.map_cons,List.map_nil]);first|done|rfl) ?_;with_reducible refine (bellpullref01_Before.calls k _ _ t753 _ _ t756 t759 _ ?side1 ?side2 ?side3 ?side4 A5.out).mono ?_
 (case side1=>repeat (first|exact (Kd.R_reads' HO755.out).2.2|(with_reducible refine Kd.C_alloc ?_ _)|(with_reducible refine Kd.C_drewN ?_ _)|(with_reducible refine Kd.C_drew ?_)));(case side2=>exact (Kd.R_reads' HO755.out).2.1);(case side3=>repeat (first|exact (Kd.R_reads' HO758.out).2.2|(with_reducible refine Kd.C_alloc ?_ _)|(with_reducible refine Kd.C_drewN ?_ _)|(with_reducible refine Kd.C_drew ?_)));(case side4=>exact (Kd.R_reads' HO758.out).2.1);rintro e w' ⟨rfl,⟨nd,rfl⟩⟩;refine ⟨_,rfl,?_⟩;refine hK.out _ _ ⟨(blk_cell BK751.out 0).trans rfl,(blk_cell BK751.out 1).trans rfl,(blk_cell BK751.out 2).trans rfl,(blk_cell BK751.out 3).trans rfl,(blk_cell BK752.out 0).trans rfl,(blk_cell BK752.out 1).trans rfl,(blk_cell BK752.out 2).trans rfl,(blk_cell BK752.out 3).trans rfl⟩ (fun hHeld=>?_);clear hK K;refine norm_ (a':=?_) ?_ ?_;rotate_left
 ·
  show Act.put _ (some 9) _=_;simp only [Act.put,List.setIfInBounds_toArray,List.set_cons_zero,List.set_cons_succ,i64_w,i32_w];rfl
 refine pure_ (i:=5) (N:=some 4) (v:=?_) (a':=?_) #[true,true,true,true,true,true] rfl rfl (by kernel_rfl) (fun _ _ _ h=>h) (Or.inl ⟨by rfl,?_⟩) ?_ ?_;rotate_left
 ·
  intro w';go_simp;with_reducible rfl
 rotate_left
 ·
  simp only [Act.put,List.setIfInBounds_toArray,List.set_cons_zero,List.set_cons_succ,i64_w,i32_w];rfl
 refine done_ (by kernel_rfl) ?_;try go_wp2
 go_ret;exact ⟨by first|rfl|(simp [errW_none,errW_some] <;> rfl)|(simp [*,errW_none,errW_some] <;> rfl),by repeat (first|(with_reducible first|exact HB.out|apply below_alloc|apply pw_below_drewN|apply below_drew1|refine below_set ?_ GE751.out|refine below_set ?_ GE752.out)|exact HB.out)⟩
end Go.Proofs.Ytgfnmimfoicmmaa.PM
