-- Written by pr2.py, a program of this session's, for this claim (through the kit's print).
import Derived.Test.YtgfnmimfoicmmaaPMx0
import Derived.Test.YtgfnmimfoicmmaaPMx4
import Derived.Test.YtgfnmimfoicmmaaPMx5
namespace Go.Proofs.Ytgfnmimfoicmmaa.PM
open Go.Proofs.MyWords Go.RowKit Go.Proofs.YtgfnmimfoicmmaaW.PrintWords Go.Proofs.YtgfnmimfoicmmaaW.PrintLast Go.Proofs.YtgfnmimfoicmmaaW.PrintMore
attribute [local go_sem] max2_int min2_int max_two min_two max_three min_three max_four min_four   -- for this text's walks alone
set_option linter.unusedVariables false
set_option linter.unusedSimpArgs false

attribute [local go_sem] idx67_0 idx67_1 idx67_2 idx67_3
attribute [local go_sem] eqGuard_slices eqlnil36 neqnil36
/-! ### norm_Units: function 46 -/
def norm_Units.l0:Nat → List (S23) → List (S67) → Int → Int → Option ((List (S23)))
  | 0,_,_,_,_=>none
  | k + 1,x1,x4,x5,x6=>if x6 < x5 then (if 0 ≤ x6 then (if x6 < (x4.length:Int) then ((norm_quat_api.f ((rd_T67 x4 x6).f0) ((rd_T67 x4 x6).f1) ((rd_T67 x4 x6).f2) ((rd_T67 x4 x6).f3)).bind fun bt765=>(if x1.length < 4398046511104 then (norm_Units.l0 k (x1 ++ [(⟨bt765.1,bt765.2.1,bt765.2.2.1,bt765.2.2.2⟩:S23)]) x4 x5 (wrap64 (x6 + 1))) else (none))) else (none)) else (none)) else (some x1)
def norm_Units.f (k:Nat) :Option ((List (S23))):=(norm_units.f k).bind fun t760=>(norm_Units.l0 k ([]:List (S23)) t760 (t760.length:Int) 0)
theorem norm_Units.mono_l:∀ k,(∀ y0 y1 y2 y3,LeO (norm_Units.l0 k y0 y1 y2 y3) (norm_Units.l0 (k + 1) y0 y1 y2 y3))
  | 0=>fun _ _ _ _ r h=>by simp [norm_Units.l0] at h
  | k + 1=>by
    have ih0:=norm_Units.mono_l k
    · intro y0 y1 y2 y3
      unfold norm_Units.l0
      with_reducible repeat' first|exact ih0 _ _ _ _|exact norm_units.mono _|exact LeO.refl _|exact LeO.none _|refine LeO.ite ?_ ?_|refine LeO.bind ?_ (fun _=>?_)
theorem norm_Units.mono:∀ k,LeO (norm_Units.f k ) (norm_Units.f (k + 1) ):=by
  intro  k
  have ih0:=norm_Units.mono_l k
  unfold norm_Units.f
  with_reducible repeat' first|exact ih0 _ _ _ _|exact norm_units.mono _|exact LeO.refl _|exact LeO.none _|refine LeO.ite ?_ ?_|refine LeO.bind ?_ (fun _=>?_)
set_option maxHeartbeats 8000000 in
set_option maxRecDepth 100000 in
theorem norm_Units.calls (k:Nat)  (r:List (S23)) (w:World) (h:norm_Units.f k =some r) :
    Calls Try.prog 46 #[] w fun e w'=>∃ a5:Value,e=.returned (a5)∧Kd.R k23 23 w' w.heap.size (fun _=>True) a5 r∧Below w.heap.size w w':=by
 have d2:=Try.underlying67;have F:=mk0 (Below.refl w.heap.size w);have H:((norm_units.f k).bind fun B=>(norm_Units.l0 k ([]:List (S23)) B (B.length:Int) 0))=some r:=h;clear h;replace H:=Option.bind_eq_some_iff.mp H;obtain ⟨B,a6,H⟩:=H;(try dsimp only at H);have A1:=mk0 a6;clear a6;have H':=mk0 H;clear H;go_enter Try.func46,Try.ntmps46;go_wp2_with (first|((with_reducible refine gate_callee (f:=53) rfl ?_);refine goesL_ (some 4) rfl rfl Try.func53 (by kernel_rfl) rfl #[] rfl (by (try simp only [m0_,m1_,m2_]);first|done|rfl|(simp only [l0_,l1_];rfl)) ?_;(with_reducible refine (norm_units.calls k  B _ A1.1).mono ?_);rintro e w2 ⟨d4,rfl,a7,hb⟩;refine ⟨_,rfl,?_⟩;have Y:=mk0 (Kd.R_lower a7 (below_size F.1));replace F:=bst F hb;(try clear hb);(try clear a7);obtain ⟨c7,c9,d0⟩:=Kd.R_slice Y.1;subst d0))
 go_loopg [1,6] k (fun kq v1 v6 w'=>∃ (L:List (S23)) (C:Int),v6=.int .i64 C∧Aside0 (norm_Units.l0 kq L B (B.length:Int) C=some r)∧Aside0 (kq ≤ k)∧Aside0 (Kd.R k23 23 w' w.heap.size (fun _=>True) v1 L)∧Aside0 (Kd.R k67 67 w' w.heap.size (fun _=>True) (.slice c7 B.length c9) B)∧Aside0 (Below w.heap.size w w'))
 case atStart=>exact ⟨(([]:List (S23))),(0),(by first|rfl|(simp;done)|(simp [*];done)),H',⟨Nat.le_refl _⟩,⟨by first|exact Kd.R_nil _ _ _ _ _|exact Kd.N_nil _ _ _ _ _|exact Kd.V_nil _ _ _ _ _|exact Kd.Q_nil _ _ _ _ _|exact Kd.S_nil _ _ _ _ _⟩,⟨by (with_reducible repeat (first|apply Kd.R_alloc|apply Kd.R_drewN|apply Kd.R_drew));exact Y.1⟩,⟨by repeat (first|(with_reducible first|exact F.1|apply below_alloc|apply pw_below_drewN|apply below_drew1)|exact F.1)⟩⟩
 case round =>
  clear H';try clear p2
  obtain ⟨L,C,rfl,HA,a8,G,I,F⟩:=hrel;cases gk with
  | zero=>exact absurd HA.1 (by simp [norm_Units.l0])
  | succ k1 =>
   have H:=HA.1;clear HA;simp only [norm_Units.l0] at H
   by_cases c4:C < (B.length:Int)
   ·
    rw [if_pos c4] at H;have c4b0:decide (C < (B.length:Int))=true:=decide_eq_true c4;clear c4
    by_cases c5:0 ≤ C
    ·
     rw [if_pos c5] at H;have c5b0:decide (0 ≤ C)=true:=decide_eq_true c5;clear c5
     by_cases c6:C < (B.length:Int)
     ·
      rw [if_pos c6] at H;have c6b0:decide (C < (B.length:Int))=true:=decide_eq_true c6;clear c6;replace H:=Option.bind_eq_some_iff.mp H;obtain ⟨⟨O,Q,T,U⟩,a9,H⟩:=H;(try dsimp only at H);have A7:=mk0 a9;clear a9
      by_cases c8:L.length < 4398046511104
      ·
       rw [if_pos c8] at H;have b0:=mk0 c8;clear c8;obtain ⟨Z,J⟩:∃ y_:List (S23),y_=(L ++ [(⟨O,Q,T,U⟩:S23)]):=⟨_,rfl⟩
       replace H:(norm_Units.l0 k1 Z B (B.length:Int) (wrap64 (C + 1)))=some r:=by first|(rw [J];with_reducible exact H)|(have a0:=(Option.bind_some _ _).symm.trans H;rw [J];with_reducible exact a0)|(have a0:=(Option.bind_some _ _).symm.trans H;with_reducible exact a0)|with_reducible exact H|(rw [J];exact H)|exact H
       have a2:=mk0 J;clear J;have H':=mk0 H;clear H;have V:0 ≤ (C:Int):=of_decide_eq_true (by first|(with_reducible assumption)|assumption);have X:C < (B.length:Int):=of_decide_eq_true (by first|(with_reducible assumption)|assumption);obtain ⟨d1,b1,b2,b3,b4,b5⟩:=at_T67 (Kd.R_reads' I.1).2.2 C V X;cases b1;replace V:=eq_true V;replace X:=eq_true X;go_wp2_with (first|((with_reducible refine gate_dst (N:=3) rfl ?_);refine box_event ?hg (N:=3) ?hd (cs:=#[.int .i64 0,.int .i64 0,.int .i64 0,.int .i64 0]) (t:=67) ?hr ?_;(case hd=>rfl);(case hg=>rfl);(case hr=>first|(go_simp;done)|(go_simp;rfl));intro E hg w9 a1 hb;have D:=mk0 (a1);have a3:=szw hg F;have M:=a3;replace G:=rbl G hb;replace I:=mk0 (Kd.R_below (Kd.R_elderB I.1 E (Nat.le_of_eq hg.symm)) hb);replace F:=bst F hb;clear hb a1 hg;have b6:=q0_ D;have b7:=q1_ D;have b8:=q2_ D;have b9:=q3_ D;have c0:=blk_frozen D.1 0;have c1:=blk_frozen D.1 1;have c2:=blk_frozen D.1 2;have c3:=blk_frozen D.1 3)|((with_reducible refine gate_callee (f:=50) rfl ?_);refine goesL_ (some 12) rfl rfl Try.func50 (by kernel_rfl) rfl #[.agg #[.int .i64 ((rd_T67 B C).f0),.int .i64 ((rd_T67 B C).f1),.int .i64 ((rd_T67 B C).f2),.int .i64 ((rd_T67 B C).f3)]] rfl (by (try simp only [m0_,m1_,m2_]);first|done|rfl|(simp only [l0_,l1_];rfl)) ?_;(with_reducible refine (norm_quat_api.calls ((rd_T67 B C).f0) ((rd_T67 B C).f1) ((rd_T67 B C).f2) ((rd_T67 B C).f3) O Q T U _ A7.1).mono ?_);rintro e d9 ⟨rfl,hb⟩;refine ⟨_,rfl,?_⟩;replace G:=mk0 (Kd.R_below (by (with_reducible repeat (first|apply Kd.R_alloc|apply Kd.R_drewN|apply Kd.R_drew));exact (Kd.R_mono (Kd.R_far (p:=⟨E,3,none⟩) (Kd.R_far (p:=⟨E,2,none⟩) (Kd.R_far (p:=⟨E,1,none⟩) (Kd.R_far (p:=⟨E,0,none⟩) (Kd.R_types G.1 D.1 (by decide)) (fun _ hk=>hk.2) (.int .i64 ((rd_T67 B C).f0))) (fun _ hk=>hk.2) (.int .i64 ((rd_T67 B C).f1))) (fun _ hk=>hk.2) (.int .i64 ((rd_T67 B C).f2))) (fun _ hk=>hk.2) (.int .i64 ((rd_T67 B C).f3))) (fun _ h_=>h_.1))) hb);replace I:=mk0 (Kd.R_below (by (with_reducible repeat (first|apply Kd.R_alloc|apply Kd.R_drewN|apply Kd.R_drew));exact (Kd.R_mono (Kd.R_far (p:=⟨E,3,none⟩) (Kd.R_far (p:=⟨E,2,none⟩) (Kd.R_far (p:=⟨E,1,none⟩) (Kd.R_far (p:=⟨E,0,none⟩) (Kd.R_mono I.1 (fun k_ hk=>(⟨hk,hk.2⟩:_∧k_ ≠ E))) (fun _ hk=>hk.2) (.int .i64 ((rd_T67 B C).f0))) (fun _ hk=>hk.2) (.int .i64 ((rd_T67 B C).f1))) (fun _ hk=>hk.2) (.int .i64 ((rd_T67 B C).f2))) (fun _ hk=>hk.2) (.int .i64 ((rd_T67 B C).f3))) (fun _ h_=>h_.1))) hb);replace D:=mk0 (blk_below (g:=E) (o:=.cells #[.int .i64 ((rd_T67 B C).f0),.int .i64 ((rd_T67 B C).f1),.int .i64 ((rd_T67 B C).f2),.int .i64 ((rd_T67 B C).f3)] 67 (0,0)) (by refine blk_put (cs:=#[.int .i64 ((rd_T67 B C).f0),.int .i64 ((rd_T67 B C).f1),.int .i64 ((rd_T67 B C).f2),.int .i64 0]) ?_ 3 _ rfl;refine blk_put (cs:=#[.int .i64 ((rd_T67 B C).f0),.int .i64 ((rd_T67 B C).f1),.int .i64 0,.int .i64 0]) ?_ 2 _ rfl;refine blk_put (cs:=#[.int .i64 ((rd_T67 B C).f0),.int .i64 0,.int .i64 0,.int .i64 0]) ?_ 1 _ rfl;refine blk_put (cs:=#[.int .i64 0,.int .i64 0,.int .i64 0,.int .i64 0]) ?_ 0 _ rfl;exact D.1) hb);replace F:=mk0 (below_step (by repeat (with_reducible first|exact F.1|refine below_set ?_ M.1)) hb);(try clear hb);(try clear hk))|((with_reducible refine gate_builtin (b:=.append) (xs:=#[.tmp 10,.tmp 13]) rfl ?_);at_builtin;refine Kd.R_append k23 (w0:=w) w.heap.size rfl (.tmp 10) (.tmp 13) 28 23 (.agg #[(.int .i64 0),(.int .i64 0),(.int .i64 0),(.int .i64 0)]) 32 rfl Try.underlying28 info23 rfl (by decide) (by omega) u1 L (⟨O,Q,T,U⟩:S23) [.int .i64 O,.int .i64 Q,.int .i64 T,.int .i64 U] (fun _=>True) (fun _=>False) rfl rfl ?aP (fun _ hk=>hk.elim) ?aF ?aO ?aB ?aS ?aL ?_;(case aP=>exact k23_mkM _ _ _ (⟨O,Q,T,U⟩:S23));(case aB=>exact (by repeat (first|(with_reducible first|exact F.1|apply below_alloc|apply pw_below_drewN|apply below_drew1|refine below_set ?_ M.1)|exact F.1)));(case aF=>exact (fun _ _=>trivial));(case aO=>exact (by (with_reducible repeat (first|apply Kd.R_alloc|apply Kd.R_drewN|apply Kd.R_drew));exact G.1));(case aS=>exact (below_size (by repeat (first|(with_reducible first|exact F.1|apply below_alloc|apply pw_below_drewN|apply below_drew1|refine below_set ?_ M.1)|exact F.1))));(case aL=>have:=b0.1;omega);intro d8 e0 ho hb hg hat;rw [← a2.1] at ho;have a4:=mk0 (ho);replace I:=mk0 (Kd.R_over' (by (with_reducible repeat (first|apply Kd.R_alloc|apply Kd.R_drewN|apply Kd.R_drew));exact I.1) (Kd.R_typed (by (with_reducible repeat (first|apply Kd.R_alloc|apply Kd.R_drewN|apply Kd.R_drew));exact G.1)) (by decide) hg);replace D:=mk0 (blk_grown (g:=E) (o:=.cells #[.int .i64 ((rd_T67 B C).f0),.int .i64 ((rd_T67 B C).f1),.int .i64 ((rd_T67 B C).f2),.int .i64 ((rd_T67 B C).f3)] 67 (0,0)) (by (with_reducible repeat (first|refine blk_drewN ?_ _|refine blk_drew ?_|refine blk_alloc ?_ _));exact D.1) hg (Kd.R_ne G.1 D.1 (by decide)));replace F:=mk0 (hb);clear G;clear ho hb hg hat))
       go_roundg k1
       case measure=>have:=a8.1;omega
       case rel=>exact ⟨(Z),(wrap64 (C + 1)),(by first|rfl|(simp;done)|(simp [*];done)),H',⟨by have:=a8.1;omega⟩,⟨by (with_reducible repeat (first|apply Kd.R_alloc|apply Kd.R_drewN|apply Kd.R_drew));exact a4.1⟩,⟨by (with_reducible repeat (first|apply Kd.R_alloc|apply Kd.R_drewN|apply Kd.R_drew));exact Kd.R_mono I.1 (fun _ hk=>trivial)⟩,⟨by repeat (first|(with_reducible first|exact F.1|apply below_alloc|apply pw_below_drewN|apply below_drew1|refine below_set ?_ M.1)|exact F.1)⟩⟩
      ·
       rw [if_neg c8] at H;exact absurd H (by simp)
     ·
      rw [if_neg c6] at H;exact absurd H (by simp)
    ·
     rw [if_neg c5] at H;exact absurd H (by simp)
   ·
    rw [if_neg c4] at H;have c4b0:decide (C < (B.length:Int))=false:=decide_eq_false c4;clear c4;obtain rfl:=Option.some.inj H;go_wp2;go_ret;exact ⟨_,by first|rfl|(simp [errW_none,errW_some] <;> rfl)|(simp [*,errW_none,errW_some] <;> rfl),by (with_reducible repeat (first|apply Kd.R_alloc|apply Kd.R_drewN|apply Kd.R_drew));exact G.1,by repeat (first|(with_reducible first|exact F.1|apply below_alloc|apply pw_below_drewN|apply below_drew1)|exact F.1)⟩
end Go.Proofs.Ytgfnmimfoicmmaa.PM
