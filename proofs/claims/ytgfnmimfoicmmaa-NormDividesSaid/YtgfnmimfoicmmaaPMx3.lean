-- Written by pr2.py, a program of this session's, for this claim (through the kit's print).
import Derived.Test.YtgfnmimfoicmmaaPMx0
namespace Go.Proofs.Ytgfnmimfoicmmaa.PM
open Go.Proofs.MyWords Go.RowKit Go.Proofs.YtgfnmimfoicmmaaW.PrintWords Go.Proofs.YtgfnmimfoicmmaaW.PrintLast Go.Proofs.YtgfnmimfoicmmaaW.PrintMore
attribute [local go_sem] max2_int min2_int max_two min_two max_three min_three max_four min_four   -- for this text's walks alone
set_option linter.unusedVariables false
set_option linter.unusedSimpArgs false

attribute [local go_sem] idx67_0 idx67_1 idx67_2 idx67_3
attribute [local go_sem] eqGuard_slices eqlnil36 neqnil36
/-! ### norm_of: function 48 -/
def norm_of.f (a0_0:Int) (a0_1:Int) (a0_2:Int) (a0_3:Int):Option (Int × Int × Int × Int):=some (a0_0,a0_1,a0_2,a0_3)
set_option maxHeartbeats 8000000 in
set_option maxRecDepth 100000 in
theorem norm_of.calls (a0_0:Int) (a0_1:Int) (a0_2:Int) (a0_3:Int) (r1:Int) (r2:Int) (r3:Int) (r4:Int) (w:World) (h:norm_of.f a0_0 a0_1 a0_2 a0_3=some (r1,r2,r3,r4)) :
    Calls Try.prog 48 #[.agg #[.int .i64 a0_0,.int .i64 a0_1,.int .i64 a0_2,.int .i64 a0_3]] w fun e w'=>e=.returned (.agg #[.int .i64 r1,.int .i64 r2,.int .i64 r3,.int .i64 r4])∧Below w.heap.size w w':=by
 have hu23:=Try.underlying23;have hu67:=Try.underlying67;have HB:=mk0 (Below.refl w.heap.size w);have H:(some (a0_0,a0_1,a0_2,a0_3))=some (r1,r2,r3,r4):=h;clear h;simp only [Option.some.injEq,Prod.mk.injEq] at H;obtain ⟨rfl,rfl,rfl,rfl⟩:=H;go_enter Try.func48,Try.ntmps48;go_wp2_with (first|((with_reducible refine gate_dst (N:=1) rfl ?_);refine box_event ?hg (N:=1) ?hd (cs:=#[.int .i64 a0_0,.int .i64 a0_1,.int .i64 a0_2,.int .i64 a0_3]) (t:=23) ?hr ?_;(case hd=>rfl);(case hg=>rfl);(case hr=>first|(go_simp;done)|(go_simp;rfl));intro gb101 hg w2 hbox hb;have BK101:=mk0 (hbox);have GW101:=szw hg HB;have GE101:=GW101;replace HB:=bst HB hb;clear hb hbox hg)|((with_reducible refine gate_dst (N:=2) rfl ?_);refine box_event ?hg (N:=2) ?hd (cs:=#[.int .i64 0,.int .i64 0,.int .i64 0,.int .i64 0]) (t:=67) ?hr ?_;(case hd=>rfl);(case hg=>rfl);(case hr=>first|(go_simp;done)|(go_simp;rfl));intro gb102 hg w3 hbox hb;have BK102:=mk0 (hbox);have GW102:=szw hg HB;have GE102:=GW102;have NB101_102:=nlt hg BK101;have NB102_101:=ngt hg BK101;replace BK101:=bkb BK101 hb;replace HB:=bst HB hb;clear hb hbox hg;have hnb4:=NB101_102.out;have hnc4:=NB102_101.out;have hcz5_0:w3.cell? ⟨gb101,0,none⟩=some (.int .i64 a0_0):=(blk_cell BK101.out 0).trans rfl;have hcz5_1:w3.cell? ⟨gb101,1,none⟩=some (.int .i64 a0_1):=(blk_cell BK101.out 1).trans rfl;have hcz5_2:w3.cell? ⟨gb101,2,none⟩=some (.int .i64 a0_2):=(blk_cell BK101.out 2).trans rfl;have hcz5_3:w3.cell? ⟨gb101,3,none⟩=some (.int .i64 a0_3):=(blk_cell BK101.out 3).trans rfl;have hfz5_0:=blk_frozen BK101.out 0;have hfz5_1:=blk_frozen BK101.out 1;have hfz5_2:=blk_frozen BK101.out 2;have hfz5_3:=blk_frozen BK101.out 3;have hcz6_0:w3.cell? ⟨gb102,0,none⟩=some (.int .i64 0):=(blk_cell BK102.out 0).trans rfl;have hcz6_1:w3.cell? ⟨gb102,1,none⟩=some (.int .i64 0):=(blk_cell BK102.out 1).trans rfl;have hcz6_2:w3.cell? ⟨gb102,2,none⟩=some (.int .i64 0):=(blk_cell BK102.out 2).trans rfl;have hcz6_3:w3.cell? ⟨gb102,3,none⟩=some (.int .i64 0):=(blk_cell BK102.out 3).trans rfl;have hfz6_0:=blk_frozen BK102.out 0;have hfz6_1:=blk_frozen BK102.out 1;have hfz6_2:=blk_frozen BK102.out 2;have hfz6_3:=blk_frozen BK102.out 3));refine bodyPost_ret (results_cell_row rfl _ _ gb102 67 #[.int .i64 a0_0,.int .i64 a0_1,.int .i64 a0_2,.int .i64 a0_3] (0,0) _ rfl (by refine blk_put (cs:=#[.int .i64 a0_0,.int .i64 a0_1,.int .i64 a0_2,.int .i64 0]) ?_ 3 _ rfl;refine blk_put (cs:=#[.int .i64 a0_0,.int .i64 a0_1,.int .i64 0,.int .i64 0]) ?_ 2 _ rfl;refine blk_put (cs:=#[.int .i64 a0_0,.int .i64 0,.int .i64 0,.int .i64 0]) ?_ 1 _ rfl;refine blk_put (cs:=#[.int .i64 0,.int .i64 0,.int .i64 0,.int .i64 0]) ?_ 0 _ rfl;exact BK102.out) Try.underlying67 rfl (by kernel_rfl)) rfl ?_;exact ⟨by first|rfl|(simp [errW_none,errW_some] <;> rfl)|(simp [*,errW_none,errW_some] <;> rfl),by repeat (first|(with_reducible first|exact HB.out|apply below_alloc|apply pw_below_drewN|apply below_drew1|refine below_set ?_ GE101.out|refine below_set ?_ GE102.out)|exact HB.out)⟩
/-! ### norm_quat_integral: function 68 -/
def norm_quat_integral.l0:Nat → Int → Int → Int → Int → Int → Int → Int → Int → Int → Option (Bool)
  | 0,_,_,_,_,_,_,_,_,_=>none
  | k + 1,x6,x992,x993,x994,x995,x104000,x104001,x104002,x104003=>if x6 < 4 then (if x6=0 then (if (Go.bits .and .i64 x995 1)=(Go.bits .and .i64 x104000 1) then (norm_quat_integral.l0 k 1 x992 x993 x994 x995 x104000 x104001 x104002 x104003) else (some false)) else (if x6=1 then (if (Go.bits .and .i64 x994 1)=(Go.bits .and .i64 x104000 1) then (norm_quat_integral.l0 k 2 x992 x993 x994 x995 x104000 x104001 x104002 x104003) else (some false)) else (if x6=2 then (if (Go.bits .and .i64 x993 1)=(Go.bits .and .i64 x104000 1) then (norm_quat_integral.l0 k 3 x992 x993 x994 x995 x104000 x104001 x104002 x104003) else (some false)) else (if x6=3 then (if (Go.bits .and .i64 x992 1)=(Go.bits .and .i64 x104000 1) then (norm_quat_integral.l0 k 4 x992 x993 x994 x995 x104000 x104001 x104002 x104003) else (some false)) else (none))))) else (some true)
def norm_quat_integral.f (k:Nat) (a0_0:Int) (a0_1:Int) (a0_2:Int) (a0_3:Int):Option (Bool):=norm_quat_integral.l0 k 0 a0_3 a0_2 a0_1 a0_0 a0_0 a0_1 a0_2 a0_3
theorem norm_quat_integral.mono_l:∀ k,(∀ y0 y1 y2 y3 y4 y5 y6 y7 y8,LeO (norm_quat_integral.l0 k y0 y1 y2 y3 y4 y5 y6 y7 y8) (norm_quat_integral.l0 (k + 1) y0 y1 y2 y3 y4 y5 y6 y7 y8))
  | 0=>fun _ _ _ _ _ _ _ _ _ r h=>by simp [norm_quat_integral.l0] at h
  | k + 1=>by
    have ih0:=norm_quat_integral.mono_l k
    · intro y0 y1 y2 y3 y4 y5 y6 y7 y8
      unfold norm_quat_integral.l0
      with_reducible repeat' first|exact ih0 _ _ _ _ _ _ _ _ _|exact LeO.refl _|exact LeO.none _|refine LeO.ite ?_ ?_|refine LeO.bind ?_ (fun _=>?_)
theorem norm_quat_integral.mono:∀ a0 a1 a2 a3 k,LeO (norm_quat_integral.f k a0 a1 a2 a3) (norm_quat_integral.f (k + 1) a0 a1 a2 a3):=by
  intro a0 a1 a2 a3 k
  have ih0:=norm_quat_integral.mono_l k
  unfold norm_quat_integral.f
  with_reducible repeat' first|exact ih0 _ _ _ _ _ _ _ _ _|exact LeO.refl _|exact LeO.none _|refine LeO.ite ?_ ?_|refine LeO.bind ?_ (fun _=>?_)
set_option maxHeartbeats 8000000 in
set_option maxRecDepth 100000 in
theorem norm_quat_integral.calls (k:Nat) (a0_0:Int) (a0_1:Int) (a0_2:Int) (a0_3:Int) (r:Bool) (w:World) (h:norm_quat_integral.f k a0_0 a0_1 a0_2 a0_3=some r) :
    Calls Try.prog 68 #[.agg #[.int .i64 a0_0,.int .i64 a0_1,.int .i64 a0_2,.int .i64 a0_3]] w fun e w'=>e=.returned (.bool r)∧Below w.heap.size w w':=by
 have hu67:=Try.underlying67;have HB:=mk0 (Below.refl w.heap.size w);have H:(norm_quat_integral.l0 k 0 a0_3 a0_2 a0_1 a0_0 a0_0 a0_1 a0_2 a0_3)=some r:=h;clear h;have H':=mk0 H;clear H;go_enter Try.func68,Try.ntmps68;go_wp2_with (first|((with_reducible refine gate_dst (N:=1) rfl ?_);refine box_event ?hg (N:=1) ?hd (cs:=#[.int .i64 a0_0,.int .i64 a0_1,.int .i64 a0_2,.int .i64 a0_3]) (t:=67) ?hr ?_;(case hd=>rfl);(case hg=>rfl);(case hr=>first|(go_simp;done)|(go_simp;rfl));intro gb103 hg w2 hbox hb;have BK103:=mk0 (hbox);have GW103:=szw hg HB;have GE103:=GW103;replace HB:=bst HB hb;clear hb hbox hg;have hcz3_0:w2.cell? ⟨gb103,0,none⟩=some (.int .i64 a0_0):=(blk_cell BK103.out 0).trans rfl;have hcz3_1:w2.cell? ⟨gb103,1,none⟩=some (.int .i64 a0_1):=(blk_cell BK103.out 1).trans rfl;have hcz3_2:w2.cell? ⟨gb103,2,none⟩=some (.int .i64 a0_2):=(blk_cell BK103.out 2).trans rfl;have hcz3_3:w2.cell? ⟨gb103,3,none⟩=some (.int .i64 a0_3):=(blk_cell BK103.out 3).trans rfl;have hfz3_0:=blk_frozen BK103.out 0;have hfz3_1:=blk_frozen BK103.out 1;have hfz3_2:=blk_frozen BK103.out 2;have hfz3_3:=blk_frozen BK103.out 3));(try simp only [Act.put,List.setIfInBounds_toArray,List.set_cons_zero,List.set_cons_succ])
 go_loopg [6] k (fun kq v6 w'=>∃ (x6_1:Int),v6=.int .i64 x6_1∧Aside0 (norm_quat_integral.l0 kq x6_1 a0_3 a0_2 a0_1 a0_0 a0_0 a0_1 a0_2 a0_3=some r)∧Aside0 (kq ≤ k)∧Aside0 (w'.heap[gb103]?=some (.cells #[.int .i64 a0_0,.int .i64 a0_1,.int .i64 a0_2,.int .i64 a0_3] 67 (0,0)))∧Aside0 (Below w.heap.size w w'))
 case atStart=>exact ⟨(0),(by first|rfl|(simp;done)|(simp [*];done)),H',⟨Nat.le_refl _⟩,⟨by exact BK103.out⟩,⟨by repeat (first|(with_reducible first|exact HB.out|apply below_alloc|apply pw_below_drewN|apply below_drew1|refine below_set ?_ GE103.out)|exact HB.out)⟩⟩
 case round =>
  clear H';try clear p2
  try clear hcz3_0
  try clear hcz3_1
  try clear hcz3_2
  try clear hcz3_3
  try clear hfz3_0
  try clear hfz3_1
  try clear hfz3_2
  try clear hfz3_3
  obtain ⟨x6_1,rfl,HA,HK1,BK103,HB⟩:=hrel;cases gk with
  | zero=>exact absurd HA.out (by simp [norm_quat_integral.l0])
  | succ k1 =>
   have H:=HA.out;clear HA;simp only [norm_quat_integral.l0] at H
   by_cases c4:x6_1 < 4
   ·
    rw [if_pos c4] at H;have c4b0:decide (x6_1 < 4)=true:=decide_eq_true c4;clear c4
    by_cases c5:x6_1=0
    ·
     subst c5;have H1:(if (Go.bits .and .i64 a0_0 1)=(Go.bits .and .i64 a0_0 1) then (norm_quat_integral.l0 k1 1 a0_3 a0_2 a0_1 a0_0 a0_0 a0_1 a0_2 a0_3) else (some false))=some r:=by (try rw [if_pos rfl] at H);first|exact H|simpa using H
     clear H;have H:=H1;clear H1;replace H:(norm_quat_integral.l0 k1 1 a0_3 a0_2 a0_1 a0_0 a0_0 a0_1 a0_2 a0_3)=some r:=by first|exact H|(rw [if_pos rfl] at H;exact H)|(simpa using H)
     have H':=mk0 H;clear H;have hcz6_0:wr.cell? ⟨gb103,0,none⟩=some (.int .i64 a0_0):=(blk_cell BK103.out 0).trans rfl;have hcz6_1:wr.cell? ⟨gb103,1,none⟩=some (.int .i64 a0_1):=(blk_cell BK103.out 1).trans rfl;have hcz6_2:wr.cell? ⟨gb103,2,none⟩=some (.int .i64 a0_2):=(blk_cell BK103.out 2).trans rfl;have hcz6_3:wr.cell? ⟨gb103,3,none⟩=some (.int .i64 a0_3):=(blk_cell BK103.out 3).trans rfl;have hfz6_0:=blk_frozen BK103.out 0;have hfz6_1:=blk_frozen BK103.out 1;have hfz6_2:=blk_frozen BK103.out 2;have hfz6_3:=blk_frozen BK103.out 3;go_wp2;go_roundg k1
     case measure=>have:=HK1.out;omega
     case rel=>exact ⟨(1),(by first|rfl|(simp;done)|(simp [*];done)),H',⟨by have:=HK1.out;omega⟩,⟨by exact BK103.out⟩,⟨by repeat (first|(with_reducible first|exact HB.out|apply below_alloc|apply pw_below_drewN|apply below_drew1|refine below_set ?_ GE103.out)|exact HB.out)⟩⟩
    ·
     rw [if_neg c5] at H
     by_cases c7:x6_1=1
     ·
      subst c7;have H1:(if (Go.bits .and .i64 a0_1 1)=(Go.bits .and .i64 a0_0 1) then (norm_quat_integral.l0 k1 2 a0_3 a0_2 a0_1 a0_0 a0_0 a0_1 a0_2 a0_3) else (some false))=some r:=by (try rw [if_pos rfl] at H);first|exact H|simpa using H
      clear H;have H:=H1;clear H1
      by_cases c8:(Go.bits .and .i64 a0_1 1)=(Go.bits .and .i64 a0_0 1)
      ·
       rw [if_pos c8] at H;have c8b0:((Go.bits .and .i64 a0_1 1) == (Go.bits .and .i64 a0_0 1))=true:=beq_iff_eq.mpr c8;have c8b1:((Go.bits .and .i64 a0_1 1) != (Go.bits .and .i64 a0_0 1))=false:=bne_eq_false_iff_eq.mpr c8;clear c8;have H':=mk0 H;clear H;have hcz9_0:wr.cell? ⟨gb103,0,none⟩=some (.int .i64 a0_0):=(blk_cell BK103.out 0).trans rfl;have hcz9_1:wr.cell? ⟨gb103,1,none⟩=some (.int .i64 a0_1):=(blk_cell BK103.out 1).trans rfl;have hcz9_2:wr.cell? ⟨gb103,2,none⟩=some (.int .i64 a0_2):=(blk_cell BK103.out 2).trans rfl;have hcz9_3:wr.cell? ⟨gb103,3,none⟩=some (.int .i64 a0_3):=(blk_cell BK103.out 3).trans rfl;have hfz9_0:=blk_frozen BK103.out 0;have hfz9_1:=blk_frozen BK103.out 1;have hfz9_2:=blk_frozen BK103.out 2;have hfz9_3:=blk_frozen BK103.out 3;go_wp2;go_roundg k1
       case measure=>have:=HK1.out;omega
       case rel=>exact ⟨(2),(by first|rfl|(simp;done)|(simp [*];done)),H',⟨by have:=HK1.out;omega⟩,⟨by exact BK103.out⟩,⟨by repeat (first|(with_reducible first|exact HB.out|apply below_alloc|apply pw_below_drewN|apply below_drew1|refine below_set ?_ GE103.out)|exact HB.out)⟩⟩
      ·
       rw [if_neg c8] at H;have c8b0:((Go.bits .and .i64 a0_1 1) == (Go.bits .and .i64 a0_0 1))=false:=beq_eq_false_iff_ne.mpr c8;have c8b1:((Go.bits .and .i64 a0_1 1) != (Go.bits .and .i64 a0_0 1))=true:=bne_iff_ne.mpr c8;obtain rfl:=Option.some.inj H;have hcz10_0:wr.cell? ⟨gb103,0,none⟩=some (.int .i64 a0_0):=(blk_cell BK103.out 0).trans rfl;have hcz10_1:wr.cell? ⟨gb103,1,none⟩=some (.int .i64 a0_1):=(blk_cell BK103.out 1).trans rfl;have hcz10_2:wr.cell? ⟨gb103,2,none⟩=some (.int .i64 a0_2):=(blk_cell BK103.out 2).trans rfl;have hcz10_3:wr.cell? ⟨gb103,3,none⟩=some (.int .i64 a0_3):=(blk_cell BK103.out 3).trans rfl;have hfz10_0:=blk_frozen BK103.out 0;have hfz10_1:=blk_frozen BK103.out 1;have hfz10_2:=blk_frozen BK103.out 2;have hfz10_3:=blk_frozen BK103.out 3;go_wp2;go_ret;exact ⟨by first|rfl|(simp [errW_none,errW_some] <;> rfl)|(simp [*,errW_none,errW_some] <;> rfl),by repeat (first|(with_reducible first|exact HB.out|apply below_alloc|apply pw_below_drewN|apply below_drew1|refine below_set ?_ GE103.out)|exact HB.out)⟩
     ·
      rw [if_neg c7] at H
      by_cases c11:x6_1=2
      ·
       subst c11;have H1:(if (Go.bits .and .i64 a0_2 1)=(Go.bits .and .i64 a0_0 1) then (norm_quat_integral.l0 k1 3 a0_3 a0_2 a0_1 a0_0 a0_0 a0_1 a0_2 a0_3) else (some false))=some r:=by (try rw [if_pos rfl] at H);first|exact H|simpa using H
       clear H;have H:=H1;clear H1
       by_cases c12:(Go.bits .and .i64 a0_2 1)=(Go.bits .and .i64 a0_0 1)
       ·
        rw [if_pos c12] at H;have c12b0:((Go.bits .and .i64 a0_2 1) == (Go.bits .and .i64 a0_0 1))=true:=beq_iff_eq.mpr c12;have c12b1:((Go.bits .and .i64 a0_2 1) != (Go.bits .and .i64 a0_0 1))=false:=bne_eq_false_iff_eq.mpr c12;clear c12;have H':=mk0 H;clear H;have hcz13_0:wr.cell? ⟨gb103,0,none⟩=some (.int .i64 a0_0):=(blk_cell BK103.out 0).trans rfl;have hcz13_1:wr.cell? ⟨gb103,1,none⟩=some (.int .i64 a0_1):=(blk_cell BK103.out 1).trans rfl;have hcz13_2:wr.cell? ⟨gb103,2,none⟩=some (.int .i64 a0_2):=(blk_cell BK103.out 2).trans rfl;have hcz13_3:wr.cell? ⟨gb103,3,none⟩=some (.int .i64 a0_3):=(blk_cell BK103.out 3).trans rfl;have hfz13_0:=blk_frozen BK103.out 0;have hfz13_1:=blk_frozen BK103.out 1;have hfz13_2:=blk_frozen BK103.out 2;have hfz13_3:=blk_frozen BK103.out 3;go_wp2;go_roundg k1
        case measure=>have:=HK1.out;omega
        case rel=>exact ⟨(3),(by first|rfl|(simp;done)|(simp [*];done)),H',⟨by have:=HK1.out;omega⟩,⟨by exact BK103.out⟩,⟨by repeat (first|(with_reducible first|exact HB.out|apply below_alloc|apply pw_below_drewN|apply below_drew1|refine below_set ?_ GE103.out)|exact HB.out)⟩⟩
       ·
        rw [if_neg c12] at H;have c12b0:((Go.bits .and .i64 a0_2 1) == (Go.bits .and .i64 a0_0 1))=false:=beq_eq_false_iff_ne.mpr c12;have c12b1:((Go.bits .and .i64 a0_2 1) != (Go.bits .and .i64 a0_0 1))=true:=bne_iff_ne.mpr c12;obtain rfl:=Option.some.inj H;have hcz14_0:wr.cell? ⟨gb103,0,none⟩=some (.int .i64 a0_0):=(blk_cell BK103.out 0).trans rfl;have hcz14_1:wr.cell? ⟨gb103,1,none⟩=some (.int .i64 a0_1):=(blk_cell BK103.out 1).trans rfl;have hcz14_2:wr.cell? ⟨gb103,2,none⟩=some (.int .i64 a0_2):=(blk_cell BK103.out 2).trans rfl;have hcz14_3:wr.cell? ⟨gb103,3,none⟩=some (.int .i64 a0_3):=(blk_cell BK103.out 3).trans rfl;have hfz14_0:=blk_frozen BK103.out 0;have hfz14_1:=blk_frozen BK103.out 1;have hfz14_2:=blk_frozen BK103.out 2;have hfz14_3:=blk_frozen BK103.out 3;go_wp2;go_ret;exact ⟨by first|rfl|(simp [errW_none,errW_some] <;> rfl)|(simp [*,errW_none,errW_some] <;> rfl),by repeat (first|(with_reducible first|exact HB.out|apply below_alloc|apply pw_below_drewN|apply below_drew1|refine below_set ?_ GE103.out)|exact HB.out)⟩
      ·
       rw [if_neg c11] at H
       by_cases c15:x6_1=3
       ·
        subst c15;have H1:(if (Go.bits .and .i64 a0_3 1)=(Go.bits .and .i64 a0_0 1) then (norm_quat_integral.l0 k1 4 a0_3 a0_2 a0_1 a0_0 a0_0 a0_1 a0_2 a0_3) else (some false))=some r:=by (try rw [if_pos rfl] at H);first|exact H|simpa using H
        clear H;have H:=H1;clear H1
        by_cases c16:(Go.bits .and .i64 a0_3 1)=(Go.bits .and .i64 a0_0 1)
        ·
         rw [if_pos c16] at H;have c16b0:((Go.bits .and .i64 a0_3 1) == (Go.bits .and .i64 a0_0 1))=true:=beq_iff_eq.mpr c16;have c16b1:((Go.bits .and .i64 a0_3 1) != (Go.bits .and .i64 a0_0 1))=false:=bne_eq_false_iff_eq.mpr c16;clear c16;have H':=mk0 H;clear H;have hcz17_0:wr.cell? ⟨gb103,0,none⟩=some (.int .i64 a0_0):=(blk_cell BK103.out 0).trans rfl;have hcz17_1:wr.cell? ⟨gb103,1,none⟩=some (.int .i64 a0_1):=(blk_cell BK103.out 1).trans rfl;have hcz17_2:wr.cell? ⟨gb103,2,none⟩=some (.int .i64 a0_2):=(blk_cell BK103.out 2).trans rfl;have hcz17_3:wr.cell? ⟨gb103,3,none⟩=some (.int .i64 a0_3):=(blk_cell BK103.out 3).trans rfl;have hfz17_0:=blk_frozen BK103.out 0;have hfz17_1:=blk_frozen BK103.out 1;have hfz17_2:=blk_frozen BK103.out 2;have hfz17_3:=blk_frozen BK103.out 3;go_wp2;go_roundg k1
         case measure=>have:=HK1.out;omega
         case rel=>exact ⟨(4),(by first|rfl|(simp;done)|(simp [*];done)),H',⟨by have:=HK1.out;omega⟩,⟨by exact BK103.out⟩,⟨by repeat (first|(with_reducible first|exact HB.out|apply below_alloc|apply pw_below_drewN|apply below_drew1|refine below_set ?_ GE103.out)|exact HB.out)⟩⟩
        ·
         rw [if_neg c16] at H;have c16b0:((Go.bits .and .i64 a0_3 1) == (Go.bits .and .i64 a0_0 1))=false:=beq_eq_false_iff_ne.mpr c16;have c16b1:((Go.bits .and .i64 a0_3 1) != (Go.bits .and .i64 a0_0 1))=true:=bne_iff_ne.mpr c16;obtain rfl:=Option.some.inj H;have hcz18_0:wr.cell? ⟨gb103,0,none⟩=some (.int .i64 a0_0):=(blk_cell BK103.out 0).trans rfl;have hcz18_1:wr.cell? ⟨gb103,1,none⟩=some (.int .i64 a0_1):=(blk_cell BK103.out 1).trans rfl;have hcz18_2:wr.cell? ⟨gb103,2,none⟩=some (.int .i64 a0_2):=(blk_cell BK103.out 2).trans rfl;have hcz18_3:wr.cell? ⟨gb103,3,none⟩=some (.int .i64 a0_3):=(blk_cell BK103.out 3).trans rfl;have hfz18_0:=blk_frozen BK103.out 0;have hfz18_1:=blk_frozen BK103.out 1;have hfz18_2:=blk_frozen BK103.out 2;have hfz18_3:=blk_frozen BK103.out 3;go_wp2;go_ret;exact ⟨by first|rfl|(simp [errW_none,errW_some] <;> rfl)|(simp [*,errW_none,errW_some] <;> rfl),by repeat (first|(with_reducible first|exact HB.out|apply below_alloc|apply pw_below_drewN|apply below_drew1|refine below_set ?_ GE103.out)|exact HB.out)⟩
       ·
        rw [if_neg c15] at H;exact absurd H (by simp)
   ·
    rw [if_neg c4] at H;have c4b0:decide (x6_1 < 4)=false:=decide_eq_false c4;clear c4;obtain rfl:=Option.some.inj H;go_wp2;go_ret;exact ⟨by first|rfl|(simp [errW_none,errW_some] <;> rfl)|(simp [*,errW_none,errW_some] <;> rfl),by repeat (first|(with_reducible first|exact HB.out|apply below_alloc|apply pw_below_drewN|apply below_drew1|refine below_set ?_ GE103.out)|exact HB.out)⟩
/-! ### slices_Min_int_int: function 69 -/
def slices_Min_int_int.l0:Nat → List Int → Int → Int → Option (Int)
  | 0,_,_,_=>none
  | k + 1,x0,x3,x4=>if x4 < (x0.length:Int) then (if 0 ≤ x4 then (slices_Min_int_int.l0 k x0 (mn x3 (rd x0 x4)) (wrap64 (x4 + 1))) else (none)) else (some x3)
def slices_Min_int_int.f (k:Nat) (l0:List Int):Option (Int):=if (l0.length:Int) < 1 then (none) else (if 0 < (l0.length:Int) then (slices_Min_int_int.l0 k l0 (rd l0 0) 1) else (none))
theorem slices_Min_int_int.mono_l:∀ k,(∀ y0 y1 y2,LeO (slices_Min_int_int.l0 k y0 y1 y2) (slices_Min_int_int.l0 (k + 1) y0 y1 y2))
  | 0=>fun _ _ _ r h=>by simp [slices_Min_int_int.l0] at h
  | k + 1=>by
    have ih0:=slices_Min_int_int.mono_l k
    · intro y0 y1 y2
      unfold slices_Min_int_int.l0
      with_reducible repeat' first|exact ih0 _ _ _|exact LeO.refl _|exact LeO.none _|refine LeO.ite ?_ ?_|refine LeO.bind ?_ (fun _=>?_)
theorem slices_Min_int_int.mono:∀ a0 k,LeO (slices_Min_int_int.f k a0) (slices_Min_int_int.f (k + 1) a0):=by
  intro a0 k
  have ih0:=slices_Min_int_int.mono_l k
  unfold slices_Min_int_int.f
  with_reducible repeat' first|exact ih0 _ _ _|exact LeO.refl _|exact LeO.none _|refine LeO.ite ?_ ?_|refine LeO.bind ?_ (fun _=>?_)
set_option maxHeartbeats 8000000 in
set_option maxRecDepth 100000 in
theorem slices_Min_int_int.calls (k:Nat) (A0:Option Addr) (c0:Nat) (l0:List Int) (r:Int) (w:World) (hr0:Kd.C (Kd.int .i64) w A0 l0.length l0) (hc0:l0.length ≤ c0) (h:slices_Min_int_int.f k l0=some r) :
    Calls Try.prog 69 #[.slice A0 l0.length c0] w fun e w'=>e=.returned (.int .i64 r)∧Below w.heap.size w w':=by
 have HR0:=mk0 hr0;have HC0:=mk0 hc0;clear hr0 hc0;have HB:=mk0 (Below.refl w.heap.size w);have H:(if (l0.length:Int) < 1 then (none) else (if 0 < (l0.length:Int) then (slices_Min_int_int.l0 k l0 (rd l0 0) 1) else (none)))=some r:=h;clear h
 by_cases c2:(l0.length:Int) < 1
 ·
  rw [if_pos c2] at H;exact absurd H (by simp)
 ·
  rw [if_neg c2] at H;have c2b0:decide ((l0.length:Int) < 1)=false:=decide_eq_false c2;have c2b1:decide (l0.length < 1)=false:=decide_eq_false (by omega);clear c2
  by_cases c3:0 < (l0.length:Int)
  ·
   rw [if_pos c3] at H;have c3b0:decide (0 < (l0.length:Int))=true:=decide_eq_true c3;have c3b1:decide (0 < l0.length)=true:=decide_eq_true (by omega);clear c3;have H':=mk0 H;clear H;have p104:0 ≤ (0:Int):=(by omega)
   have q104:0 < (l0.length:Int):=of_decide_eq_true (by first|(with_reducible assumption)|assumption);obtain ⟨ad104,e104,hx104_0⟩:=Kd.at_int HR0.out 0 p104 q104;cases e104;have qi104:(0 < l0.length)=True:=eq_true (by omega);(try rw [show ((0:Int)).toNat=0 from rfl] at hx104_0);(try rw [Addr.add_zero'] at hx104_0);replace p104:=eq_true p104;replace q104:=eq_true q104;go_enter Try.func69,Try.ntmps69;go_wp2
   go_loopg [3,4] k (fun kq v3 v4 w'=>∃ (x3_1:Int) (x4_1:Int),v3=.int .i64 x3_1∧v4=.int .i64 x4_1∧Aside0 (slices_Min_int_int.l0 kq l0 x3_1 x4_1=some r)∧Aside0 (kq ≤ k)∧Aside0 (Below w.heap.size w w'))
   case atStart=>exact ⟨(rd l0 0),(1),(by first|rfl|(simp;done)|(simp [*];done)),(by first|rfl|(simp;done)|(simp [*];done)),H',⟨Nat.le_refl _⟩,⟨by repeat (first|(with_reducible first|exact HB.out|apply below_alloc|apply pw_below_drewN|apply below_drew1)|exact HB.out)⟩⟩
   case round =>
    clear H';try clear p1
    try clear q1
    try clear hx1
    try clear qi1
    try clear c2
    try clear c2b0
    try clear c2b1
    try clear p2
    try clear c3
    try clear c3b0
    try clear c3b1
    try clear hx104_0
    try clear p104
    try clear q104
    obtain ⟨x3_1,x4_1,rfl,rfl,HA,HK1,HB⟩:=hrel;cases gk with
    | zero=>exact absurd HA.out (by simp [slices_Min_int_int.l0])
    | succ k1 =>
     have H:=HA.out;clear HA;simp only [slices_Min_int_int.l0] at H
     by_cases c4:x4_1 < (l0.length:Int)
     ·
      rw [if_pos c4] at H;have c4b0:decide (x4_1 < (l0.length:Int))=true:=decide_eq_true c4;clear c4
      by_cases c5:0 ≤ x4_1
      ·
       rw [if_pos c5] at H;have c5b0:decide (0 ≤ x4_1)=true:=decide_eq_true c5;clear c5;obtain ⟨ji6,hji6⟩:∃ j_:Int,(mn x3_1 (rd l0 x4_1))=j_:=⟨_,rfl⟩
       replace H:(slices_Min_int_int.l0 k1 l0 ji6 (wrap64 (x4_1 + 1)))=some r:=by first|(rw [hji6] at H;exact H)|(simp only [hji6] at H ⊢;exact H)
       have hji6_:(if (rd l0 x4_1) < x3_1 then (rd l0 x4_1) else x3_1)=ji6:=hji6;have H':=mk0 H;clear H;have p105:0 ≤ (x4_1:Int):=of_decide_eq_true (by first|(with_reducible assumption)|assumption);have q105:x4_1 < (l0.length:Int):=of_decide_eq_true (by first|(with_reducible assumption)|assumption);obtain ⟨ad105,e105,hx105_0⟩:=Kd.at_int HR0.out x4_1 p105 q105;obtain rfl:ad104=ad105:=(by injection e105)
       replace hx105_0:=(HB.out.cell (World.block_lt_of_cell? w _ hx105_0)).trans hx105_0;replace p105:=eq_true p105;replace q105:=eq_true q105;go_wp2;go_roundg k1
       case measure=>have:=HK1.out;omega
       case rel=>exact ⟨(ji6),(wrap64 (x4_1 + 1)),(by first|rfl|(simp;done)|(simp only [← hji6] <;> (first|rfl|simp))|(simp [*];done)),(by first|rfl|(simp;done)|(simp [*];done)),H',⟨by have:=HK1.out;omega⟩,⟨by repeat (first|(with_reducible first|exact HB.out|apply below_alloc|apply pw_below_drewN|apply below_drew1)|exact HB.out)⟩⟩
      ·
       rw [if_neg c5] at H;exact absurd H (by simp)
     ·
      rw [if_neg c4] at H;have c4b0:decide (x4_1 < (l0.length:Int))=false:=decide_eq_false c4;clear c4;obtain rfl:=Option.some.inj H;go_wp2;go_ret;exact ⟨by first|rfl|(simp [errW_none,errW_some] <;> rfl)|(simp [*,errW_none,errW_some] <;> rfl),by repeat (first|(with_reducible first|exact HB.out|apply below_alloc|apply pw_below_drewN|apply below_drew1)|exact HB.out)⟩
  ·
   rw [if_neg c3] at H;exact absurd H (by simp)
/-! ### slices_Max_int_int: function 70 -/
def slices_Max_int_int.l0:Nat → List Int → Int → Int → Option (Int)
  | 0,_,_,_=>none
  | k + 1,x0,x3,x4=>if x4 < (x0.length:Int) then (if 0 ≤ x4 then (slices_Max_int_int.l0 k x0 (mx x3 (rd x0 x4)) (wrap64 (x4 + 1))) else (none)) else (some x3)
def slices_Max_int_int.f (k:Nat) (l0:List Int):Option (Int):=if (l0.length:Int) < 1 then (none) else (if 0 < (l0.length:Int) then (slices_Max_int_int.l0 k l0 (rd l0 0) 1) else (none))
theorem slices_Max_int_int.mono_l:∀ k,(∀ y0 y1 y2,LeO (slices_Max_int_int.l0 k y0 y1 y2) (slices_Max_int_int.l0 (k + 1) y0 y1 y2))
  | 0=>fun _ _ _ r h=>by simp [slices_Max_int_int.l0] at h
  | k + 1=>by
    have ih0:=slices_Max_int_int.mono_l k
    · intro y0 y1 y2
      unfold slices_Max_int_int.l0
      with_reducible repeat' first|exact ih0 _ _ _|exact LeO.refl _|exact LeO.none _|refine LeO.ite ?_ ?_|refine LeO.bind ?_ (fun _=>?_)
theorem slices_Max_int_int.mono:∀ a0 k,LeO (slices_Max_int_int.f k a0) (slices_Max_int_int.f (k + 1) a0):=by
  intro a0 k
  have ih0:=slices_Max_int_int.mono_l k
  unfold slices_Max_int_int.f
  with_reducible repeat' first|exact ih0 _ _ _|exact LeO.refl _|exact LeO.none _|refine LeO.ite ?_ ?_|refine LeO.bind ?_ (fun _=>?_)
set_option maxHeartbeats 8000000 in
set_option maxRecDepth 100000 in
theorem slices_Max_int_int.calls (k:Nat) (A0:Option Addr) (c0:Nat) (l0:List Int) (r:Int) (w:World) (hr0:Kd.C (Kd.int .i64) w A0 l0.length l0) (hc0:l0.length ≤ c0) (h:slices_Max_int_int.f k l0=some r) :
    Calls Try.prog 70 #[.slice A0 l0.length c0] w fun e w'=>e=.returned (.int .i64 r)∧Below w.heap.size w w':=by
 have HR0:=mk0 hr0;have HC0:=mk0 hc0;clear hr0 hc0;have HB:=mk0 (Below.refl w.heap.size w);have H:(if (l0.length:Int) < 1 then (none) else (if 0 < (l0.length:Int) then (slices_Max_int_int.l0 k l0 (rd l0 0) 1) else (none)))=some r:=h;clear h
 by_cases c2:(l0.length:Int) < 1
 ·
  rw [if_pos c2] at H;exact absurd H (by simp)
 ·
  rw [if_neg c2] at H;have c2b0:decide ((l0.length:Int) < 1)=false:=decide_eq_false c2;have c2b1:decide (l0.length < 1)=false:=decide_eq_false (by omega);clear c2
  by_cases c3:0 < (l0.length:Int)
  ·
   rw [if_pos c3] at H;have c3b0:decide (0 < (l0.length:Int))=true:=decide_eq_true c3;have c3b1:decide (0 < l0.length)=true:=decide_eq_true (by omega);clear c3;have H':=mk0 H;clear H;have p106:0 ≤ (0:Int):=(by omega)
   have q106:0 < (l0.length:Int):=of_decide_eq_true (by first|(with_reducible assumption)|assumption);obtain ⟨ad106,e106,hx106_0⟩:=Kd.at_int HR0.out 0 p106 q106;cases e106;have qi106:(0 < l0.length)=True:=eq_true (by omega);(try rw [show ((0:Int)).toNat=0 from rfl] at hx106_0);(try rw [Addr.add_zero'] at hx106_0);replace p106:=eq_true p106;replace q106:=eq_true q106;go_enter Try.func70,Try.ntmps70;go_wp2
   go_loopg [3,4] k (fun kq v3 v4 w'=>∃ (x3_1:Int) (x4_1:Int),v3=.int .i64 x3_1∧v4=.int .i64 x4_1∧Aside0 (slices_Max_int_int.l0 kq l0 x3_1 x4_1=some r)∧Aside0 (kq ≤ k)∧Aside0 (Below w.heap.size w w'))
   case atStart=>exact ⟨(rd l0 0),(1),(by first|rfl|(simp;done)|(simp [*];done)),(by first|rfl|(simp;done)|(simp [*];done)),H',⟨Nat.le_refl _⟩,⟨by repeat (first|(with_reducible first|exact HB.out|apply below_alloc|apply pw_below_drewN|apply below_drew1)|exact HB.out)⟩⟩
   case round =>
    clear H';try clear p1
    try clear q1
    try clear hx1
    try clear qi1
    try clear c2
    try clear c2b0
    try clear c2b1
    try clear p2
    try clear c3
    try clear c3b0
    try clear c3b1
    try clear hx106_0
    try clear p106
    try clear q106
    obtain ⟨x3_1,x4_1,rfl,rfl,HA,HK1,HB⟩:=hrel;cases gk with
    | zero=>exact absurd HA.out (by simp [slices_Max_int_int.l0])
    | succ k1 =>
     have H:=HA.out;clear HA;simp only [slices_Max_int_int.l0] at H
     by_cases c4:x4_1 < (l0.length:Int)
     ·
      rw [if_pos c4] at H;have c4b0:decide (x4_1 < (l0.length:Int))=true:=decide_eq_true c4;clear c4
      by_cases c5:0 ≤ x4_1
      ·
       rw [if_pos c5] at H;have c5b0:decide (0 ≤ x4_1)=true:=decide_eq_true c5;clear c5;obtain ⟨ji6,hji6⟩:∃ j_:Int,(mx x3_1 (rd l0 x4_1))=j_:=⟨_,rfl⟩
       replace H:(slices_Max_int_int.l0 k1 l0 ji6 (wrap64 (x4_1 + 1)))=some r:=by first|(rw [hji6] at H;exact H)|(simp only [hji6] at H ⊢;exact H)
       have hji6_:(if x3_1 < (rd l0 x4_1) then (rd l0 x4_1) else x3_1)=ji6:=hji6;have H':=mk0 H;clear H;have p107:0 ≤ (x4_1:Int):=of_decide_eq_true (by first|(with_reducible assumption)|assumption);have q107:x4_1 < (l0.length:Int):=of_decide_eq_true (by first|(with_reducible assumption)|assumption);obtain ⟨ad107,e107,hx107_0⟩:=Kd.at_int HR0.out x4_1 p107 q107;obtain rfl:ad106=ad107:=(by injection e107)
       replace hx107_0:=(HB.out.cell (World.block_lt_of_cell? w _ hx107_0)).trans hx107_0;replace p107:=eq_true p107;replace q107:=eq_true q107;go_wp2;go_roundg k1
       case measure=>have:=HK1.out;omega
       case rel=>exact ⟨(ji6),(wrap64 (x4_1 + 1)),(by first|rfl|(simp;done)|(simp only [← hji6] <;> (first|rfl|simp))|(simp [*];done)),(by first|rfl|(simp;done)|(simp [*];done)),H',⟨by have:=HK1.out;omega⟩,⟨by repeat (first|(with_reducible first|exact HB.out|apply below_alloc|apply pw_below_drewN|apply below_drew1)|exact HB.out)⟩⟩
      ·
       rw [if_neg c5] at H;exact absurd H (by simp)
     ·
      rw [if_neg c4] at H;have c4b0:decide (x4_1 < (l0.length:Int))=false:=decide_eq_false c4;clear c4;obtain rfl:=Option.some.inj H;go_wp2;go_ret;exact ⟨by first|rfl|(simp [errW_none,errW_some] <;> rfl)|(simp [*,errW_none,errW_some] <;> rfl),by repeat (first|(with_reducible first|exact HB.out|apply below_alloc|apply pw_below_drewN|apply below_drew1)|exact HB.out)⟩
  ·
   rw [if_neg c3] at H;exact absurd H (by simp)
/-! ### norm_check: function 47 -/
mutual
def norm_check.l0:Nat → List (S23) → List (S23) → Int → Int → Option (Int)
  | 0,_,_,_,_=>none
  | k + 1,x0,x8,x9,x10=>if x10 < x9 then (if 0 ≤ x10 then (if x10 < (x8.length:Int) then ((norm_of.f ((rd_T23 x8 x10).f0) ((rd_T23 x8 x10).f1) ((rd_T23 x8 x10).f2) ((rd_T23 x8 x10).f3)).bind fun bt110=>((norm_quat_integral.f k bt110.1 bt110.2.1 bt110.2.2.1 bt110.2.2.2).bind fun t114=>(if t114=true then (norm_check.l0 k x0 x8 x9 (wrap64 (x10 + 1))) else (some 2)))) else (none)) else (none)) else (norm_check.l1 k x0 (x0.length:Int) 0)
def norm_check.l1:Nat → List (S23) → Int → Int → Option (Int)
  | 0,_,_,_=>none
  | k + 1,x19,x20,x21=>if x21 < x20 then (if 0 ≤ x21 then (if x21 < (x19.length:Int) then ((norm_of.f ((rd_T23 x19 x21).f0) ((rd_T23 x19 x21).f1) ((rd_T23 x19 x21).f2) ((rd_T23 x19 x21).f3)).bind fun bt117=>((slices_Min_int_int.f k [bt117.1,bt117.2.1,bt117.2.2.1,bt117.2.2.2]).bind fun t122=>(if t122 < (-1000) then (some 1) else ((slices_Max_int_int.f k [bt117.1,bt117.2.1,bt117.2.2.1,bt117.2.2.2]).bind fun t123=>(if t123 > 1000 then (some 1) else (norm_check.l1 k x19 x20 (wrap64 (x21 + 1)))))))) else (none)) else (none)) else (some 0)
end
def norm_check.f (k:Nat) (l0:List (S23)):Option (Int):=norm_check.l0 k l0 l0 (l0.length:Int) 0
theorem norm_check.mono_l:∀ k,(∀ y0 y1 y2 y3,LeO (norm_check.l0 k y0 y1 y2 y3) (norm_check.l0 (k + 1) y0 y1 y2 y3))∧(∀ y0 y1 y2,LeO (norm_check.l1 k y0 y1 y2) (norm_check.l1 (k + 1) y0 y1 y2))
  | 0=>⟨fun _ _ _ _ r h=>by simp [norm_check.l0] at h,fun _ _ _ r h=>by simp [norm_check.l1] at h⟩
  | k + 1=>by
    obtain ⟨ih0,ih1⟩:=norm_check.mono_l k
    refine ⟨?_,?_⟩
    · intro y0 y1 y2 y3
      unfold norm_check.l0
      with_reducible repeat' first|exact ih0 _ _ _ _|exact ih1 _ _ _|exact norm_quat_integral.mono _ _ _ _ _|exact slices_Max_int_int.mono _ _|exact slices_Min_int_int.mono _ _|exact LeO.refl _|exact LeO.none _|refine LeO.ite ?_ ?_|refine LeO.bind ?_ (fun _=>?_)
    · intro y0 y1 y2
      unfold norm_check.l1
      with_reducible repeat' first|exact ih0 _ _ _ _|exact ih1 _ _ _|exact norm_quat_integral.mono _ _ _ _ _|exact slices_Max_int_int.mono _ _|exact slices_Min_int_int.mono _ _|exact LeO.refl _|exact LeO.none _|refine LeO.ite ?_ ?_|refine LeO.bind ?_ (fun _=>?_)
theorem norm_check.mono:∀ a0 k,LeO (norm_check.f k a0) (norm_check.f (k + 1) a0):=by
  intro a0 k
  obtain ⟨ih0,ih1⟩:=norm_check.mono_l k
  unfold norm_check.f
  with_reducible repeat' first|exact ih0 _ _ _ _|exact ih1 _ _ _|exact norm_quat_integral.mono _ _ _ _ _|exact slices_Max_int_int.mono _ _|exact slices_Min_int_int.mono _ _|exact LeO.refl _|exact LeO.none _|refine LeO.ite ?_ ?_|refine LeO.bind ?_ (fun _=>?_)
set_option maxHeartbeats 8000000 in
set_option maxRecDepth 100000 in
theorem norm_check.calls (k:Nat) (A0:Option Addr) (c0:Nat) (l0:List (S23)) (r:Int) (w:World) (hr0:Kd.C k23 w A0 l0.length l0) (hc0:l0.length ≤ c0) (h:norm_check.f k l0=some r) :
    Calls Try.prog 47 #[.slice A0 l0.length c0] w fun e w'=>e=.returned (.int .i64 r)∧Below w.heap.size w w':=by
 have hu23:=Try.underlying23;have hu67:=Try.underlying67;have HR0:=mk0 hr0;have HC0:=mk0 hc0;clear hr0 hc0;have HB:=mk0 (Below.refl w.heap.size w);have H:(norm_check.l0 k l0 l0 (l0.length:Int) 0)=some r:=h;clear h;have H':=mk0 H;clear H;go_enter Try.func47,Try.ntmps47;go_wp2
 go_loopg [10] k (fun kq v10 w'=>∃ (x10_1:Int),v10=.int .i64 x10_1∧Aside0 (norm_check.l0 kq l0 l0 (l0.length:Int) x10_1=some r)∧Aside0 (kq ≤ k)∧Aside0 (Below w.heap.size w w'))
 case atStart=>exact ⟨(0),(by first|rfl|(simp;done)|(simp [*];done)),H',⟨Nat.le_refl _⟩,⟨by repeat (first|(with_reducible first|exact HB.out|apply below_alloc|apply pw_below_drewN|apply below_drew1)|exact HB.out)⟩⟩
 case round =>
  clear H';obtain ⟨x10_1,rfl,HA,HK1,HB⟩:=hrel;cases gk with
  | zero=>exact absurd HA.out (by simp [norm_check.l0])
  | succ k1 =>
   have H:=HA.out;clear HA;simp only [norm_check.l0] at H
   by_cases c2:x10_1 < (l0.length:Int)
   ·
    rw [if_pos c2] at H;have c2b0:decide (x10_1 < (l0.length:Int))=true:=decide_eq_true c2;clear c2
    by_cases c3:0 ≤ x10_1
    ·
     rw [if_pos c3] at H;have c3b0:decide (0 ≤ x10_1)=true:=decide_eq_true c3;clear c3
     by_cases c4:x10_1 < (l0.length:Int)
     ·
      rw [if_pos c4] at H;have c4b0:decide (x10_1 < (l0.length:Int))=true:=decide_eq_true c4;clear c4;replace H:=Option.bind_eq_some_iff.mp H;obtain ⟨⟨t110,t111,t112,t113⟩,A50,H⟩:=H;(try dsimp only at H);have A5:=mk0 A50;clear A50;replace H:=Option.bind_eq_some_iff.mp H;obtain ⟨t114,A60,H⟩:=H;(try dsimp only at H);have A6:=mk0 A60;clear A60
      by_cases c7:t114=true
      ·
       subst c7;have H1:(norm_check.l0 k1 l0 l0 (l0.length:Int) (wrap64 (x10_1 + 1)))=some r:=by rw [if_pos rfl] at H;exact H
       clear H;have H:=H1;clear H1;have H':=mk0 H;clear H;have p108:0 ≤ (x10_1:Int):=of_decide_eq_true (by first|(with_reducible assumption)|assumption);have q108:x10_1 < (l0.length:Int):=of_decide_eq_true (by first|(with_reducible assumption)|assumption);obtain ⟨ad108,e108,hx108_0,hx108_1,hx108_2,hx108_3⟩:=at_T23 HR0.out x10_1 p108 q108;cases e108;replace hx108_0:=(HB.out.cell (World.block_lt_of_cell? w _ hx108_0)).trans hx108_0;replace hx108_1:=(HB.out.cell (World.block_lt_of_cell? w _ hx108_1)).trans hx108_1;replace hx108_2:=(HB.out.cell (World.block_lt_of_cell? w _ hx108_2)).trans hx108_2;replace hx108_3:=(HB.out.cell (World.block_lt_of_cell? w _ hx108_3)).trans hx108_3;replace p108:=eq_true p108;replace q108:=eq_true q108;go_wp2_with (first|((with_reducible refine gate_dst (N:=4) rfl ?_);refine box_event ?hg (N:=4) ?hd (cs:=#[.int .i64 0,.int .i64 0,.int .i64 0,.int .i64 0]) (t:=23) ?hr ?_;(case hd=>rfl);(case hg=>rfl);(case hr=>first|(go_simp;done)|(go_simp;rfl));intro gb109 hg w8 hbox hb;have BK109:=mk0 (hbox);have GW109:=szw hg HB;have GE109:=GW109;replace HB:=bst HB hb;clear hb hbox hg;have hcz9_0:w8.cell? ⟨gb109,0,none⟩=some (.int .i64 0):=(blk_cell BK109.out 0).trans rfl;have hcz9_1:w8.cell? ⟨gb109,1,none⟩=some (.int .i64 0):=(blk_cell BK109.out 1).trans rfl;have hcz9_2:w8.cell? ⟨gb109,2,none⟩=some (.int .i64 0):=(blk_cell BK109.out 2).trans rfl;have hcz9_3:w8.cell? ⟨gb109,3,none⟩=some (.int .i64 0):=(blk_cell BK109.out 3).trans rfl;have hfz9_0:=blk_frozen BK109.out 0;have hfz9_1:=blk_frozen BK109.out 1;have hfz9_2:=blk_frozen BK109.out 2;have hfz9_3:=blk_frozen BK109.out 3)|((with_reducible refine gate_callee (f:=48) rfl ?_);refine goesL_ (some 15) rfl rfl Try.func48 (by kernel_rfl) rfl #[.agg #[.int .i64 ((rd_T23 l0 x10_1).f0),.int .i64 ((rd_T23 l0 x10_1).f1),.int .i64 ((rd_T23 l0 x10_1).f2),.int .i64 ((rd_T23 l0 x10_1).f3)]] rfl (by (try simp only [List.map_toArray,List.map_cons,List.map_nil]);first|done|rfl|(simp only [List.length_drop,List.length_take];rfl)) ?_;(with_reducible refine (norm_of.calls ((rd_T23 l0 x10_1).f0) ((rd_T23 l0 x10_1).f1) ((rd_T23 l0 x10_1).f2) ((rd_T23 l0 x10_1).f3) t110 t111 t112 t113 _ A5.out).mono ?_);rintro e w10 ⟨rfl,hb⟩;refine ⟨_,rfl,?_⟩;replace BK109:=mk0 (blk_below (g:=gb109) (o:=.cells #[.int .i64 ((rd_T23 l0 x10_1).f0),.int .i64 ((rd_T23 l0 x10_1).f1),.int .i64 ((rd_T23 l0 x10_1).f2),.int .i64 ((rd_T23 l0 x10_1).f3)] 23 (0,0)) (by refine blk_put (cs:=#[.int .i64 ((rd_T23 l0 x10_1).f0),.int .i64 ((rd_T23 l0 x10_1).f1),.int .i64 ((rd_T23 l0 x10_1).f2),.int .i64 0]) ?_ 3 _ rfl;refine blk_put (cs:=#[.int .i64 ((rd_T23 l0 x10_1).f0),.int .i64 ((rd_T23 l0 x10_1).f1),.int .i64 0,.int .i64 0]) ?_ 2 _ rfl;refine blk_put (cs:=#[.int .i64 ((rd_T23 l0 x10_1).f0),.int .i64 0,.int .i64 0,.int .i64 0]) ?_ 1 _ rfl;refine blk_put (cs:=#[.int .i64 0,.int .i64 0,.int .i64 0,.int .i64 0]) ?_ 0 _ rfl;exact BK109.out) hb);replace HB:=mk0 (below_step (by repeat (with_reducible first|exact HB.out|refine below_set ?_ GE109.out)) hb);(try clear hb))|((with_reducible refine gate_callee (f:=68) rfl ?_);refine goesL_ (some 16) rfl rfl Try.func68 (by kernel_rfl) rfl #[.agg #[.int .i64 t110,.int .i64 t111,.int .i64 t112,.int .i64 t113]] rfl (by (try simp only [List.map_toArray,List.map_cons,List.map_nil]);first|done|rfl|(simp only [List.length_drop,List.length_take];rfl)) ?_;(with_reducible refine (norm_quat_integral.calls k1 t110 t111 t112 t113 true _ A6.out).mono ?_);rintro e w11 ⟨rfl,hb⟩;refine ⟨_,rfl,?_⟩;replace BK109:=bkb BK109 hb;replace HB:=bst HB hb;(try clear hb)));go_roundg k1
       case measure=>have:=HK1.out;omega
       case rel=>exact ⟨(wrap64 (x10_1 + 1)),(by first|rfl|(simp;done)|(simp [*];done)),H',⟨by have:=HK1.out;omega⟩,⟨by repeat (first|(with_reducible first|exact HB.out|apply below_alloc|apply pw_below_drewN|apply below_drew1|refine below_set ?_ GE109.out)|exact HB.out)⟩⟩
      ·
       replace c7:=Bool.eq_false_iff.mpr c7;subst c7;have H1:(some 2)=some r:=by rw [if_neg (show ¬ (false=true) by decide)] at H;exact H
       clear H;have H:=H1;clear H1;obtain rfl:=Option.some.inj H;have p108:0 ≤ (x10_1:Int):=of_decide_eq_true (by first|(with_reducible assumption)|assumption);have q108:x10_1 < (l0.length:Int):=of_decide_eq_true (by first|(with_reducible assumption)|assumption);obtain ⟨ad108,e108,hx108_0,hx108_1,hx108_2,hx108_3⟩:=at_T23 HR0.out x10_1 p108 q108;cases e108;replace hx108_0:=(HB.out.cell (World.block_lt_of_cell? w _ hx108_0)).trans hx108_0;replace hx108_1:=(HB.out.cell (World.block_lt_of_cell? w _ hx108_1)).trans hx108_1;replace hx108_2:=(HB.out.cell (World.block_lt_of_cell? w _ hx108_2)).trans hx108_2;replace hx108_3:=(HB.out.cell (World.block_lt_of_cell? w _ hx108_3)).trans hx108_3;replace p108:=eq_true p108;replace q108:=eq_true q108;go_wp2_with (first|((with_reducible refine gate_dst (N:=4) rfl ?_);refine box_event ?hg (N:=4) ?hd (cs:=#[.int .i64 0,.int .i64 0,.int .i64 0,.int .i64 0]) (t:=23) ?hr ?_;(case hd=>rfl);(case hg=>rfl);(case hr=>first|(go_simp;done)|(go_simp;rfl));intro gb109 hg w12 hbox hb;have BK109:=mk0 (hbox);have GW109:=szw hg HB;have GE109:=GW109;replace HB:=bst HB hb;clear hb hbox hg;have hcz13_0:w12.cell? ⟨gb109,0,none⟩=some (.int .i64 0):=(blk_cell BK109.out 0).trans rfl;have hcz13_1:w12.cell? ⟨gb109,1,none⟩=some (.int .i64 0):=(blk_cell BK109.out 1).trans rfl;have hcz13_2:w12.cell? ⟨gb109,2,none⟩=some (.int .i64 0):=(blk_cell BK109.out 2).trans rfl;have hcz13_3:w12.cell? ⟨gb109,3,none⟩=some (.int .i64 0):=(blk_cell BK109.out 3).trans rfl;have hfz13_0:=blk_frozen BK109.out 0;have hfz13_1:=blk_frozen BK109.out 1;have hfz13_2:=blk_frozen BK109.out 2;have hfz13_3:=blk_frozen BK109.out 3)|((with_reducible refine gate_callee (f:=48) rfl ?_);refine goesL_ (some 15) rfl rfl Try.func48 (by kernel_rfl) rfl #[.agg #[.int .i64 ((rd_T23 l0 x10_1).f0),.int .i64 ((rd_T23 l0 x10_1).f1),.int .i64 ((rd_T23 l0 x10_1).f2),.int .i64 ((rd_T23 l0 x10_1).f3)]] rfl (by (try simp only [List.map_toArray,List.map_cons,List.map_nil]);first|done|rfl|(simp only [List.length_drop,List.length_take];rfl)) ?_;(with_reducible refine (norm_of.calls ((rd_T23 l0 x10_1).f0) ((rd_T23 l0 x10_1).f1) ((rd_T23 l0 x10_1).f2) ((rd_T23 l0 x10_1).f3) t110 t111 t112 t113 _ A5.out).mono ?_);rintro e w14 ⟨rfl,hb⟩;refine ⟨_,rfl,?_⟩;replace BK109:=mk0 (blk_below (g:=gb109) (o:=.cells #[.int .i64 ((rd_T23 l0 x10_1).f0),.int .i64 ((rd_T23 l0 x10_1).f1),.int .i64 ((rd_T23 l0 x10_1).f2),.int .i64 ((rd_T23 l0 x10_1).f3)] 23 (0,0)) (by refine blk_put (cs:=#[.int .i64 ((rd_T23 l0 x10_1).f0),.int .i64 ((rd_T23 l0 x10_1).f1),.int .i64 ((rd_T23 l0 x10_1).f2),.int .i64 0]) ?_ 3 _ rfl;refine blk_put (cs:=#[.int .i64 ((rd_T23 l0 x10_1).f0),.int .i64 ((rd_T23 l0 x10_1).f1),.int .i64 0,.int .i64 0]) ?_ 2 _ rfl;refine blk_put (cs:=#[.int .i64 ((rd_T23 l0 x10_1).f0),.int .i64 0,.int .i64 0,.int .i64 0]) ?_ 1 _ rfl;refine blk_put (cs:=#[.int .i64 0,.int .i64 0,.int .i64 0,.int .i64 0]) ?_ 0 _ rfl;exact BK109.out) hb);replace HB:=mk0 (below_step (by repeat (with_reducible first|exact HB.out|refine below_set ?_ GE109.out)) hb);(try clear hb))|((with_reducible refine gate_callee (f:=68) rfl ?_);refine goesL_ (some 16) rfl rfl Try.func68 (by kernel_rfl) rfl #[.agg #[.int .i64 t110,.int .i64 t111,.int .i64 t112,.int .i64 t113]] rfl (by (try simp only [List.map_toArray,List.map_cons,List.map_nil]);first|done|rfl|(simp only [List.length_drop,List.length_take];rfl)) ?_;(with_reducible refine (norm_quat_integral.calls k1 t110 t111 t112 t113 false _ A6.out).mono ?_);rintro e w15 ⟨rfl,hb⟩;refine ⟨_,rfl,?_⟩;replace BK109:=bkb BK109 hb;replace HB:=bst HB hb;(try clear hb)));go_ret;exact ⟨by first|rfl|(simp [errW_none,errW_some] <;> rfl)|(simp [*,errW_none,errW_some] <;> rfl),by repeat (first|(with_reducible first|exact HB.out|apply below_alloc|apply pw_below_drewN|apply below_drew1|refine below_set ?_ GE109.out)|exact HB.out)⟩
     ·
      rw [if_neg c4] at H;exact absurd H (by simp)
    ·
     rw [if_neg c3] at H;exact absurd H (by simp)
   ·
    rw [if_neg c2] at H;have c2b0:decide (x10_1 < (l0.length:Int))=false:=decide_eq_false c2;clear c2;have H':=mk0 H;clear H;go_wp2
    go_loopg [21] k1 (fun kq v21 w'=>∃ (x21_2:Int),v21=.int .i64 x21_2∧Aside0 (norm_check.l1 kq l0 (l0.length:Int) x21_2=some r)∧Aside0 (kq ≤ k1)∧Aside0 (Below w.heap.size w w'))
    case atStart=>exact ⟨(0),(by first|rfl|(simp;done)|(simp [*];done)),H',⟨Nat.le_refl _⟩,⟨by repeat (first|(with_reducible first|exact HB.out|apply below_alloc|apply pw_below_drewN|apply below_drew1)|exact HB.out)⟩⟩
    case round =>
     clear H';try clear p1
     try clear q1
     try clear hx1
     try clear c2
     try clear c2b0
     try clear p2
     try clear c3
     try clear c3b0
     try clear c4
     try clear c4b0
     try clear c6
     try clear p6
     try clear c7
     try clear p10
     try clear q10
     try clear hx10
     try clear hcz13_0
     try clear hcz13_1
     try clear hcz13_2
     try clear hcz13_3
     try clear hcz9_0
     try clear hcz9_1
     try clear hcz9_2
     try clear hcz9_3
     try clear hfz13_0
     try clear hfz13_1
     try clear hfz13_2
     try clear hfz13_3
     try clear hfz9_0
     try clear hfz9_1
     try clear hfz9_2
     try clear hfz9_3
     try clear hx108_0
     try clear hx108_1
     try clear hx108_2
     try clear hx108_3
     try clear p108
     try clear q108
     obtain ⟨x21_2,rfl,HA,HK2,HB⟩:=hrel;cases gk with
     | zero=>exact absurd HA.out (by simp [norm_check.l1])
     | succ k2 =>
      have H:=HA.out;clear HA;simp only [norm_check.l1] at H
      by_cases c16:x21_2 < (l0.length:Int)
      ·
       rw [if_pos c16] at H;have c16b0:decide (x21_2 < (l0.length:Int))=true:=decide_eq_true c16;clear c16
       by_cases c17:0 ≤ x21_2
       ·
        rw [if_pos c17] at H;have c17b0:decide (0 ≤ x21_2)=true:=decide_eq_true c17;clear c17
        by_cases c18:x21_2 < (l0.length:Int)
        ·
         rw [if_pos c18] at H;have c18b0:decide (x21_2 < (l0.length:Int))=true:=decide_eq_true c18;clear c18;replace H:=Option.bind_eq_some_iff.mp H;obtain ⟨⟨t117,t118,t119,t120⟩,A190,H⟩:=H;(try dsimp only at H);have A19:=mk0 A190;clear A190;replace H:=Option.bind_eq_some_iff.mp H;obtain ⟨t122,A200,H⟩:=H;(try dsimp only at H);have A20:=mk0 A200;clear A200
         by_cases c21:t122 < (-1000)
         ·
          rw [if_pos c21] at H;have c21b0:decide (t122 < (-1000))=true:=decide_eq_true c21;clear c21;obtain rfl:=Option.some.inj H;have p115:0 ≤ (x21_2:Int):=of_decide_eq_true (by first|(with_reducible assumption)|assumption);have q115:x21_2 < (l0.length:Int):=of_decide_eq_true (by first|(with_reducible assumption)|assumption);obtain ⟨ad115,e115,hx115_0,hx115_1,hx115_2,hx115_3⟩:=at_T23 HR0.out x21_2 p115 q115;cases e115;replace hx115_0:=(HB.out.cell (World.block_lt_of_cell? w _ hx115_0)).trans hx115_0;replace hx115_1:=(HB.out.cell (World.block_lt_of_cell? w _ hx115_1)).trans hx115_1;replace hx115_2:=(HB.out.cell (World.block_lt_of_cell? w _ hx115_2)).trans hx115_2;replace hx115_3:=(HB.out.cell (World.block_lt_of_cell? w _ hx115_3)).trans hx115_3;replace p115:=eq_true p115;replace q115:=eq_true q115;go_wp2_with (first|((with_reducible refine gate_dst (N:=6) rfl ?_);refine box_event ?hg (N:=6) ?hd (cs:=#[.int .i64 0,.int .i64 0,.int .i64 0,.int .i64 0]) (t:=23) ?hr ?_;(case hd=>rfl);(case hg=>rfl);(case hr=>first|(go_simp;done)|(go_simp;rfl));intro gb116 hg w22 hbox hb;have BK116:=mk0 (hbox);have GW116:=szw hg HB;have GE116:=GW116;replace HB:=bst HB hb;clear hb hbox hg;have hcz23_0:w22.cell? ⟨gb116,0,none⟩=some (.int .i64 0):=(blk_cell BK116.out 0).trans rfl;have hcz23_1:w22.cell? ⟨gb116,1,none⟩=some (.int .i64 0):=(blk_cell BK116.out 1).trans rfl;have hcz23_2:w22.cell? ⟨gb116,2,none⟩=some (.int .i64 0):=(blk_cell BK116.out 2).trans rfl;have hcz23_3:w22.cell? ⟨gb116,3,none⟩=some (.int .i64 0):=(blk_cell BK116.out 3).trans rfl;have hfz23_0:=blk_frozen BK116.out 0;have hfz23_1:=blk_frozen BK116.out 1;have hfz23_2:=blk_frozen BK116.out 2;have hfz23_3:=blk_frozen BK116.out 3)|((with_reducible refine gate_callee (f:=48) rfl ?_);refine goesL_ (some 26) rfl rfl Try.func48 (by kernel_rfl) rfl #[.agg #[.int .i64 ((rd_T23 l0 x21_2).f0),.int .i64 ((rd_T23 l0 x21_2).f1),.int .i64 ((rd_T23 l0 x21_2).f2),.int .i64 ((rd_T23 l0 x21_2).f3)]] rfl (by (try simp only [List.map_toArray,List.map_cons,List.map_nil]);first|done|rfl|(simp only [List.length_drop,List.length_take];rfl)) ?_;(with_reducible refine (norm_of.calls ((rd_T23 l0 x21_2).f0) ((rd_T23 l0 x21_2).f1) ((rd_T23 l0 x21_2).f2) ((rd_T23 l0 x21_2).f3) t117 t118 t119 t120 _ A19.out).mono ?_);rintro e w24 ⟨rfl,hb⟩;refine ⟨_,rfl,?_⟩;replace BK116:=mk0 (blk_below (g:=gb116) (o:=.cells #[.int .i64 ((rd_T23 l0 x21_2).f0),.int .i64 ((rd_T23 l0 x21_2).f1),.int .i64 ((rd_T23 l0 x21_2).f2),.int .i64 ((rd_T23 l0 x21_2).f3)] 23 (0,0)) (by refine blk_put (cs:=#[.int .i64 ((rd_T23 l0 x21_2).f0),.int .i64 ((rd_T23 l0 x21_2).f1),.int .i64 ((rd_T23 l0 x21_2).f2),.int .i64 0]) ?_ 3 _ rfl;refine blk_put (cs:=#[.int .i64 ((rd_T23 l0 x21_2).f0),.int .i64 ((rd_T23 l0 x21_2).f1),.int .i64 0,.int .i64 0]) ?_ 2 _ rfl;refine blk_put (cs:=#[.int .i64 ((rd_T23 l0 x21_2).f0),.int .i64 0,.int .i64 0,.int .i64 0]) ?_ 1 _ rfl;refine blk_put (cs:=#[.int .i64 0,.int .i64 0,.int .i64 0,.int .i64 0]) ?_ 0 _ rfl;exact BK116.out) hb);replace HB:=mk0 (below_step (by repeat (with_reducible first|exact HB.out|refine below_set ?_ GE116.out)) hb);(try clear hb))|((with_reducible refine gate_dst (N:=7) rfl ?_);refine box_event ?hg (N:=7) ?hd (cs:=#[.int .i64 0,.int .i64 0,.int .i64 0,.int .i64 0]) (t:=67) ?hr ?_;(case hd=>rfl);(case hg=>rfl);(case hr=>first|(go_simp;done)|(go_simp;rfl));intro gb121 hg w25 hbox hb;have BK121:=mk0 (hbox);have GW121:=szw hg HB;have GE121:=GW121;have NB116_121:=nlt hg BK116;have NB121_116:=ngt hg BK116;replace BK116:=bkb BK116 hb;replace HB:=bst HB hb;clear hb hbox hg;have hnb26:=NB121_116.out;have hnc26:=NB116_121.out;have hcz27_0:w25.cell? ⟨gb121,0,none⟩=some (.int .i64 0):=(blk_cell BK121.out 0).trans rfl;have hcz27_1:w25.cell? ⟨gb121,1,none⟩=some (.int .i64 0):=(blk_cell BK121.out 1).trans rfl;have hcz27_2:w25.cell? ⟨gb121,2,none⟩=some (.int .i64 0):=(blk_cell BK121.out 2).trans rfl;have hcz27_3:w25.cell? ⟨gb121,3,none⟩=some (.int .i64 0):=(blk_cell BK121.out 3).trans rfl;have hfz27_0:=blk_frozen BK121.out 0;have hfz27_1:=blk_frozen BK121.out 1;have hfz27_2:=blk_frozen BK121.out 2;have hfz27_3:=blk_frozen BK121.out 3)|((with_reducible refine gate_callee (f:=69) rfl ?_);refine goesL_ (some 28) rfl rfl Try.func69 (by kernel_rfl) rfl #[.slice (some ⟨gb121,0,none⟩) [t117,t118,t119,t120].length 4] rfl (by (try simp only [List.map_toArray,List.map_cons,List.map_nil]);first|done|(rw [show [t117,t118,t119,t120].length=4 from rfl] <;> rfl)|rfl|(simp only [List.length_drop,List.length_take];rfl)) ?_;(with_reducible refine (slices_Min_int_int.calls k2 _ _ [t117,t118,t119,t120] t122 _ ?side1 ?side2 A20.out).mono ?_);(case side1=>exact Go.Proofs.MyWords.C_box (t:=67) (cs:=#[.int .i64 t117,.int .i64 t118,.int .i64 t119,.int .i64 t120]) (by refine blk_put (cs:=#[.int .i64 t117,.int .i64 t118,.int .i64 t119,.int .i64 0]) ?_ 3 _ rfl;refine blk_put (cs:=#[.int .i64 t117,.int .i64 t118,.int .i64 0,.int .i64 0]) ?_ 2 _ rfl;refine blk_put (cs:=#[.int .i64 t117,.int .i64 0,.int .i64 0,.int .i64 0]) ?_ 1 _ rfl;refine blk_put (cs:=#[.int .i64 0,.int .i64 0,.int .i64 0,.int .i64 0]) ?_ 0 _ rfl;exact BK121.out) (by rfl) (Nat.le_of_ble_eq_true rfl));(case side2=>exact Nat.le_refl _);rintro e w28 ⟨rfl,hb⟩;refine ⟨_,rfl,?_⟩;replace BK116:=mk0 (blk_below (g:=gb116) (o:=.cells #[.int .i64 ((rd_T23 l0 x21_2).f0),.int .i64 ((rd_T23 l0 x21_2).f1),.int .i64 ((rd_T23 l0 x21_2).f2),.int .i64 ((rd_T23 l0 x21_2).f3)] 23 (0,0)) (by (iterate 4 refine blk_far ?_ NB116_121.out _);exact BK116.out) hb);replace BK121:=mk0 (blk_below (g:=gb121) (o:=.cells #[.int .i64 t117,.int .i64 t118,.int .i64 t119,.int .i64 t120] 67 (0,0)) (by refine blk_put (cs:=#[.int .i64 t117,.int .i64 t118,.int .i64 t119,.int .i64 0]) ?_ 3 _ rfl;refine blk_put (cs:=#[.int .i64 t117,.int .i64 t118,.int .i64 0,.int .i64 0]) ?_ 2 _ rfl;refine blk_put (cs:=#[.int .i64 t117,.int .i64 0,.int .i64 0,.int .i64 0]) ?_ 1 _ rfl;refine blk_put (cs:=#[.int .i64 0,.int .i64 0,.int .i64 0,.int .i64 0]) ?_ 0 _ rfl;exact BK121.out) hb);replace HB:=mk0 (below_step (by repeat (with_reducible first|exact HB.out|refine below_set ?_ GE116.out|refine below_set ?_ GE121.out)) hb);(try clear hb)))
          go_ret;exact ⟨by first|rfl|(simp [errW_none,errW_some] <;> rfl)|(simp [*,errW_none,errW_some] <;> rfl),by repeat (first|(with_reducible first|exact HB.out|apply below_alloc|apply pw_below_drewN|apply below_drew1|refine below_set ?_ GE116.out|refine below_set ?_ GE121.out)|exact HB.out)⟩
         ·
          rw [if_neg c21] at H;have c21b0:decide (t122 < (-1000))=false:=decide_eq_false c21;clear c21;replace H:=Option.bind_eq_some_iff.mp H;obtain ⟨t123,A290,H⟩:=H;(try dsimp only at H);have A29:=mk0 A290;clear A290
          by_cases c30:t123 > 1000
          ·
           rw [if_pos c30] at H;have c30b0:decide (1000 < t123)=true:=decide_eq_true c30;clear c30;obtain rfl:=Option.some.inj H;have p115:0 ≤ (x21_2:Int):=of_decide_eq_true (by first|(with_reducible assumption)|assumption);have q115:x21_2 < (l0.length:Int):=of_decide_eq_true (by first|(with_reducible assumption)|assumption);obtain ⟨ad115,e115,hx115_0,hx115_1,hx115_2,hx115_3⟩:=at_T23 HR0.out x21_2 p115 q115;cases e115;replace hx115_0:=(HB.out.cell (World.block_lt_of_cell? w _ hx115_0)).trans hx115_0;replace hx115_1:=(HB.out.cell (World.block_lt_of_cell? w _ hx115_1)).trans hx115_1;replace hx115_2:=(HB.out.cell (World.block_lt_of_cell? w _ hx115_2)).trans hx115_2;replace hx115_3:=(HB.out.cell (World.block_lt_of_cell? w _ hx115_3)).trans hx115_3;replace p115:=eq_true p115;replace q115:=eq_true q115;go_wp2_with (first|((with_reducible refine gate_dst (N:=6) rfl ?_);refine box_event ?hg (N:=6) ?hd (cs:=#[.int .i64 0,.int .i64 0,.int .i64 0,.int .i64 0]) (t:=23) ?hr ?_;(case hd=>rfl);(case hg=>rfl);(case hr=>first|(go_simp;done)|(go_simp;rfl));intro gb116 hg w31 hbox hb;have BK116:=mk0 (hbox);have GW116:=szw hg HB;have GE116:=GW116;replace HB:=bst HB hb;clear hb hbox hg;have hcz32_0:w31.cell? ⟨gb116,0,none⟩=some (.int .i64 0):=(blk_cell BK116.out 0).trans rfl;have hcz32_1:w31.cell? ⟨gb116,1,none⟩=some (.int .i64 0):=(blk_cell BK116.out 1).trans rfl;have hcz32_2:w31.cell? ⟨gb116,2,none⟩=some (.int .i64 0):=(blk_cell BK116.out 2).trans rfl;have hcz32_3:w31.cell? ⟨gb116,3,none⟩=some (.int .i64 0):=(blk_cell BK116.out 3).trans rfl;have hfz32_0:=blk_frozen BK116.out 0;have hfz32_1:=blk_frozen BK116.out 1;have hfz32_2:=blk_frozen BK116.out 2;have hfz32_3:=blk_frozen BK116.out 3)|((with_reducible refine gate_callee (f:=48) rfl ?_);refine goesL_ (some 26) rfl rfl Try.func48 (by kernel_rfl) rfl #[.agg #[.int .i64 ((rd_T23 l0 x21_2).f0),.int .i64 ((rd_T23 l0 x21_2).f1),.int .i64 ((rd_T23 l0 x21_2).f2),.int .i64 ((rd_T23 l0 x21_2).f3)]] rfl (by (try simp only [List.map_toArray,List.map_cons,List.map_nil]);first|done|rfl|(simp only [List.length_drop,List.length_take];rfl)) ?_;(with_reducible refine (norm_of.calls ((rd_T23 l0 x21_2).f0) ((rd_T23 l0 x21_2).f1) ((rd_T23 l0 x21_2).f2) ((rd_T23 l0 x21_2).f3) t117 t118 t119 t120 _ A19.out).mono ?_);rintro e w33 ⟨rfl,hb⟩;refine ⟨_,rfl,?_⟩;replace BK116:=mk0 (blk_below (g:=gb116) (o:=.cells #[.int .i64 ((rd_T23 l0 x21_2).f0),.int .i64 ((rd_T23 l0 x21_2).f1),.int .i64 ((rd_T23 l0 x21_2).f2),.int .i64 ((rd_T23 l0 x21_2).f3)] 23 (0,0)) (by refine blk_put (cs:=#[.int .i64 ((rd_T23 l0 x21_2).f0),.int .i64 ((rd_T23 l0 x21_2).f1),.int .i64 ((rd_T23 l0 x21_2).f2),.int .i64 0]) ?_ 3 _ rfl;refine blk_put (cs:=#[.int .i64 ((rd_T23 l0 x21_2).f0),.int .i64 ((rd_T23 l0 x21_2).f1),.int .i64 0,.int .i64 0]) ?_ 2 _ rfl;refine blk_put (cs:=#[.int .i64 ((rd_T23 l0 x21_2).f0),.int .i64 0,.int .i64 0,.int .i64 0]) ?_ 1 _ rfl;refine blk_put (cs:=#[.int .i64 0,.int .i64 0,.int .i64 0,.int .i64 0]) ?_ 0 _ rfl;exact BK116.out) hb);replace HB:=mk0 (below_step (by repeat (with_reducible first|exact HB.out|refine below_set ?_ GE116.out)) hb);(try clear hb))|((with_reducible refine gate_dst (N:=7) rfl ?_);refine box_event ?hg (N:=7) ?hd (cs:=#[.int .i64 0,.int .i64 0,.int .i64 0,.int .i64 0]) (t:=67) ?hr ?_;(case hd=>rfl);(case hg=>rfl);(case hr=>first|(go_simp;done)|(go_simp;rfl));intro gb121 hg w34 hbox hb;have BK121:=mk0 (hbox);have GW121:=szw hg HB;have GE121:=GW121;have NB116_121:=nlt hg BK116;have NB121_116:=ngt hg BK116;replace BK116:=bkb BK116 hb;replace HB:=bst HB hb;clear hb hbox hg;have hnb35:=NB121_116.out;have hnc35:=NB116_121.out;have hcz36_0:w34.cell? ⟨gb121,0,none⟩=some (.int .i64 0):=(blk_cell BK121.out 0).trans rfl;have hcz36_1:w34.cell? ⟨gb121,1,none⟩=some (.int .i64 0):=(blk_cell BK121.out 1).trans rfl;have hcz36_2:w34.cell? ⟨gb121,2,none⟩=some (.int .i64 0):=(blk_cell BK121.out 2).trans rfl;have hcz36_3:w34.cell? ⟨gb121,3,none⟩=some (.int .i64 0):=(blk_cell BK121.out 3).trans rfl;have hfz36_0:=blk_frozen BK121.out 0;have hfz36_1:=blk_frozen BK121.out 1;have hfz36_2:=blk_frozen BK121.out 2;have hfz36_3:=blk_frozen BK121.out 3)|((with_reducible refine gate_callee (f:=69) rfl ?_);refine goesL_ (some 28) rfl rfl Try.func69 (by kernel_rfl) rfl #[.slice (some ⟨gb121,0,none⟩) [t117,t118,t119,t120].length 4] rfl (by (try simp only [List.map_toArray,List.map_cons,List.map_nil]);first|done|(rw [show [t117,t118,t119,t120].length=4 from rfl] <;> rfl)|rfl|(simp only [List.length_drop,List.length_take];rfl)) ?_;(with_reducible refine (slices_Min_int_int.calls k2 _ _ [t117,t118,t119,t120] t122 _ ?side1 ?side2 A20.out).mono ?_);(case side1=>exact Go.Proofs.MyWords.C_box (t:=67) (cs:=#[.int .i64 t117,.int .i64 t118,.int .i64 t119,.int .i64 t120]) (by refine blk_put (cs:=#[.int .i64 t117,.int .i64 t118,.int .i64 t119,.int .i64 0]) ?_ 3 _ rfl;refine blk_put (cs:=#[.int .i64 t117,.int .i64 t118,.int .i64 0,.int .i64 0]) ?_ 2 _ rfl;refine blk_put (cs:=#[.int .i64 t117,.int .i64 0,.int .i64 0,.int .i64 0]) ?_ 1 _ rfl;refine blk_put (cs:=#[.int .i64 0,.int .i64 0,.int .i64 0,.int .i64 0]) ?_ 0 _ rfl;exact BK121.out) (by rfl) (Nat.le_of_ble_eq_true rfl));(case side2=>exact Nat.le_refl _);rintro e w37 ⟨rfl,hb⟩;refine ⟨_,rfl,?_⟩;replace BK116:=mk0 (blk_below (g:=gb116) (o:=.cells #[.int .i64 ((rd_T23 l0 x21_2).f0),.int .i64 ((rd_T23 l0 x21_2).f1),.int .i64 ((rd_T23 l0 x21_2).f2),.int .i64 ((rd_T23 l0 x21_2).f3)] 23 (0,0)) (by (iterate 4 refine blk_far ?_ NB116_121.out _);exact BK116.out) hb);replace BK121:=mk0 (blk_below (g:=gb121) (o:=.cells #[.int .i64 t117,.int .i64 t118,.int .i64 t119,.int .i64 t120] 67 (0,0)) (by refine blk_put (cs:=#[.int .i64 t117,.int .i64 t118,.int .i64 t119,.int .i64 0]) ?_ 3 _ rfl;refine blk_put (cs:=#[.int .i64 t117,.int .i64 t118,.int .i64 0,.int .i64 0]) ?_ 2 _ rfl;refine blk_put (cs:=#[.int .i64 t117,.int .i64 0,.int .i64 0,.int .i64 0]) ?_ 1 _ rfl;refine blk_put (cs:=#[.int .i64 0,.int .i64 0,.int .i64 0,.int .i64 0]) ?_ 0 _ rfl;exact BK121.out) hb);replace HB:=mk0 (below_step (by repeat (with_reducible first|exact HB.out|refine below_set ?_ GE116.out|refine below_set ?_ GE121.out)) hb);(try clear hb);have hcz38_0:w37.cell? ⟨gb121,0,none⟩=some (.int .i64 t117):=(blk_cell BK121.out 0).trans rfl;have hcz38_1:w37.cell? ⟨gb121,1,none⟩=some (.int .i64 t118):=(blk_cell BK121.out 1).trans rfl;have hcz38_2:w37.cell? ⟨gb121,2,none⟩=some (.int .i64 t119):=(blk_cell BK121.out 2).trans rfl;have hcz38_3:w37.cell? ⟨gb121,3,none⟩=some (.int .i64 t120):=(blk_cell BK121.out 3).trans rfl;have hfz38_0:=blk_frozen BK121.out 0;have hfz38_1:=blk_frozen BK121.out 1;have hfz38_2:=blk_frozen BK121.out 2;have hfz38_3:=blk_frozen BK121.out 3)|(go_at_call 70;refine calls_of_args (args':=#[.slice (some ⟨gb121,0,none⟩) [t117,t118,t119,t120].length 4]) (by first|(rw [show [t117,t118,t119,t120].length=4 from rfl] <;> rfl)|rfl) ?_;(with_reducible refine (slices_Max_int_int.calls k2 _ _ [t117,t118,t119,t120] t123 _ ?side1 ?side2 A29.out).mono ?_);(case side1=>exact Go.Proofs.MyWords.C_box (t:=67) (cs:=#[.int .i64 t117,.int .i64 t118,.int .i64 t119,.int .i64 t120]) BK121.out (by rfl) (Nat.le_of_ble_eq_true rfl));(case side2=>exact Nat.le_refl _);rintro e w39 ⟨rfl,hb⟩;replace BK116:=bkb BK116 hb;replace BK121:=bkb BK121 hb;replace HB:=bst HB hb;(try clear hb)))
           go_ret;exact ⟨by first|rfl|(simp [errW_none,errW_some] <;> rfl)|(simp [*,errW_none,errW_some] <;> rfl),by repeat (first|(with_reducible first|exact HB.out|apply below_alloc|apply pw_below_drewN|apply below_drew1|refine below_set ?_ GE116.out|refine below_set ?_ GE121.out)|exact HB.out)⟩
          ·
           rw [if_neg c30] at H;have c30b0:decide (1000 < t123)=false:=decide_eq_false c30;clear c30;have H':=mk0 H;clear H;have p115:0 ≤ (x21_2:Int):=of_decide_eq_true (by first|(with_reducible assumption)|assumption);have q115:x21_2 < (l0.length:Int):=of_decide_eq_true (by first|(with_reducible assumption)|assumption);obtain ⟨ad115,e115,hx115_0,hx115_1,hx115_2,hx115_3⟩:=at_T23 HR0.out x21_2 p115 q115;cases e115;replace hx115_0:=(HB.out.cell (World.block_lt_of_cell? w _ hx115_0)).trans hx115_0;replace hx115_1:=(HB.out.cell (World.block_lt_of_cell? w _ hx115_1)).trans hx115_1;replace hx115_2:=(HB.out.cell (World.block_lt_of_cell? w _ hx115_2)).trans hx115_2;replace hx115_3:=(HB.out.cell (World.block_lt_of_cell? w _ hx115_3)).trans hx115_3;replace p115:=eq_true p115;replace q115:=eq_true q115;go_wp2_with (first|((with_reducible refine gate_dst (N:=6) rfl ?_);refine box_event ?hg (N:=6) ?hd (cs:=#[.int .i64 0,.int .i64 0,.int .i64 0,.int .i64 0]) (t:=23) ?hr ?_;(case hd=>rfl);(case hg=>rfl);(case hr=>first|(go_simp;done)|(go_simp;rfl));intro gb116 hg w40 hbox hb;have BK116:=mk0 (hbox);have GW116:=szw hg HB;have GE116:=GW116;replace HB:=bst HB hb;clear hb hbox hg;have hcz41_0:w40.cell? ⟨gb116,0,none⟩=some (.int .i64 0):=(blk_cell BK116.out 0).trans rfl;have hcz41_1:w40.cell? ⟨gb116,1,none⟩=some (.int .i64 0):=(blk_cell BK116.out 1).trans rfl;have hcz41_2:w40.cell? ⟨gb116,2,none⟩=some (.int .i64 0):=(blk_cell BK116.out 2).trans rfl;have hcz41_3:w40.cell? ⟨gb116,3,none⟩=some (.int .i64 0):=(blk_cell BK116.out 3).trans rfl;have hfz41_0:=blk_frozen BK116.out 0;have hfz41_1:=blk_frozen BK116.out 1;have hfz41_2:=blk_frozen BK116.out 2;have hfz41_3:=blk_frozen BK116.out 3)|((with_reducible refine gate_callee (f:=48) rfl ?_);refine goesL_ (some 26) rfl rfl Try.func48 (by kernel_rfl) rfl #[.agg #[.int .i64 ((rd_T23 l0 x21_2).f0),.int .i64 ((rd_T23 l0 x21_2).f1),.int .i64 ((rd_T23 l0 x21_2).f2),.int .i64 ((rd_T23 l0 x21_2).f3)]] rfl (by (try simp only [List.map_toArray,List.map_cons,List.map_nil]);first|done|rfl|(simp only [List.length_drop,List.length_take];rfl)) ?_;(with_reducible refine (norm_of.calls ((rd_T23 l0 x21_2).f0) ((rd_T23 l0 x21_2).f1) ((rd_T23 l0 x21_2).f2) ((rd_T23 l0 x21_2).f3) t117 t118 t119 t120 _ A19.out).mono ?_);rintro e w42 ⟨rfl,hb⟩;refine ⟨_,rfl,?_⟩;replace BK116:=mk0 (blk_below (g:=gb116) (o:=.cells #[.int .i64 ((rd_T23 l0 x21_2).f0),.int .i64 ((rd_T23 l0 x21_2).f1),.int .i64 ((rd_T23 l0 x21_2).f2),.int .i64 ((rd_T23 l0 x21_2).f3)] 23 (0,0)) (by refine blk_put (cs:=#[.int .i64 ((rd_T23 l0 x21_2).f0),.int .i64 ((rd_T23 l0 x21_2).f1),.int .i64 ((rd_T23 l0 x21_2).f2),.int .i64 0]) ?_ 3 _ rfl;refine blk_put (cs:=#[.int .i64 ((rd_T23 l0 x21_2).f0),.int .i64 ((rd_T23 l0 x21_2).f1),.int .i64 0,.int .i64 0]) ?_ 2 _ rfl;refine blk_put (cs:=#[.int .i64 ((rd_T23 l0 x21_2).f0),.int .i64 0,.int .i64 0,.int .i64 0]) ?_ 1 _ rfl;refine blk_put (cs:=#[.int .i64 0,.int .i64 0,.int .i64 0,.int .i64 0]) ?_ 0 _ rfl;exact BK116.out) hb);replace HB:=mk0 (below_step (by repeat (with_reducible first|exact HB.out|refine below_set ?_ GE116.out)) hb);(try clear hb))|((with_reducible refine gate_dst (N:=7) rfl ?_);refine box_event ?hg (N:=7) ?hd (cs:=#[.int .i64 0,.int .i64 0,.int .i64 0,.int .i64 0]) (t:=67) ?hr ?_;(case hd=>rfl);(case hg=>rfl);(case hr=>first|(go_simp;done)|(go_simp;rfl));intro gb121 hg w43 hbox hb;have BK121:=mk0 (hbox);have GW121:=szw hg HB;have GE121:=GW121;have NB116_121:=nlt hg BK116;have NB121_116:=ngt hg BK116;replace BK116:=bkb BK116 hb;replace HB:=bst HB hb;clear hb hbox hg;have hnb44:=NB121_116.out;have hnc44:=NB116_121.out;have hcz45_0:w43.cell? ⟨gb121,0,none⟩=some (.int .i64 0):=(blk_cell BK121.out 0).trans rfl;have hcz45_1:w43.cell? ⟨gb121,1,none⟩=some (.int .i64 0):=(blk_cell BK121.out 1).trans rfl;have hcz45_2:w43.cell? ⟨gb121,2,none⟩=some (.int .i64 0):=(blk_cell BK121.out 2).trans rfl;have hcz45_3:w43.cell? ⟨gb121,3,none⟩=some (.int .i64 0):=(blk_cell BK121.out 3).trans rfl;have hfz45_0:=blk_frozen BK121.out 0;have hfz45_1:=blk_frozen BK121.out 1;have hfz45_2:=blk_frozen BK121.out 2;have hfz45_3:=blk_frozen BK121.out 3)|((with_reducible refine gate_callee (f:=69) rfl ?_);refine goesL_ (some 28) rfl rfl Try.func69 (by kernel_rfl) rfl #[.slice (some ⟨gb121,0,none⟩) [t117,t118,t119,t120].length 4] rfl (by (try simp only [List.map_toArray,List.map_cons,List.map_nil]);first|done|(rw [show [t117,t118,t119,t120].length=4 from rfl] <;> rfl)|rfl|(simp only [List.length_drop,List.length_take];rfl)) ?_;(with_reducible refine (slices_Min_int_int.calls k2 _ _ [t117,t118,t119,t120] t122 _ ?side1 ?side2 A20.out).mono ?_);(case side1=>exact Go.Proofs.MyWords.C_box (t:=67) (cs:=#[.int .i64 t117,.int .i64 t118,.int .i64 t119,.int .i64 t120]) (by refine blk_put (cs:=#[.int .i64 t117,.int .i64 t118,.int .i64 t119,.int .i64 0]) ?_ 3 _ rfl;refine blk_put (cs:=#[.int .i64 t117,.int .i64 t118,.int .i64 0,.int .i64 0]) ?_ 2 _ rfl;refine blk_put (cs:=#[.int .i64 t117,.int .i64 0,.int .i64 0,.int .i64 0]) ?_ 1 _ rfl;refine blk_put (cs:=#[.int .i64 0,.int .i64 0,.int .i64 0,.int .i64 0]) ?_ 0 _ rfl;exact BK121.out) (by rfl) (Nat.le_of_ble_eq_true rfl));(case side2=>exact Nat.le_refl _);rintro e w46 ⟨rfl,hb⟩;refine ⟨_,rfl,?_⟩;replace BK116:=mk0 (blk_below (g:=gb116) (o:=.cells #[.int .i64 ((rd_T23 l0 x21_2).f0),.int .i64 ((rd_T23 l0 x21_2).f1),.int .i64 ((rd_T23 l0 x21_2).f2),.int .i64 ((rd_T23 l0 x21_2).f3)] 23 (0,0)) (by (iterate 4 refine blk_far ?_ NB116_121.out _);exact BK116.out) hb);replace BK121:=mk0 (blk_below (g:=gb121) (o:=.cells #[.int .i64 t117,.int .i64 t118,.int .i64 t119,.int .i64 t120] 67 (0,0)) (by refine blk_put (cs:=#[.int .i64 t117,.int .i64 t118,.int .i64 t119,.int .i64 0]) ?_ 3 _ rfl;refine blk_put (cs:=#[.int .i64 t117,.int .i64 t118,.int .i64 0,.int .i64 0]) ?_ 2 _ rfl;refine blk_put (cs:=#[.int .i64 t117,.int .i64 0,.int .i64 0,.int .i64 0]) ?_ 1 _ rfl;refine blk_put (cs:=#[.int .i64 0,.int .i64 0,.int .i64 0,.int .i64 0]) ?_ 0 _ rfl;exact BK121.out) hb);replace HB:=mk0 (below_step (by repeat (with_reducible first|exact HB.out|refine below_set ?_ GE116.out|refine below_set ?_ GE121.out)) hb);(try clear hb);have hcz47_0:w46.cell? ⟨gb121,0,none⟩=some (.int .i64 t117):=(blk_cell BK121.out 0).trans rfl;have hcz47_1:w46.cell? ⟨gb121,1,none⟩=some (.int .i64 t118):=(blk_cell BK121.out 1).trans rfl;have hcz47_2:w46.cell? ⟨gb121,2,none⟩=some (.int .i64 t119):=(blk_cell BK121.out 2).trans rfl;have hcz47_3:w46.cell? ⟨gb121,3,none⟩=some (.int .i64 t120):=(blk_cell BK121.out 3).trans rfl;have hfz47_0:=blk_frozen BK121.out 0;have hfz47_1:=blk_frozen BK121.out 1;have hfz47_2:=blk_frozen BK121.out 2;have hfz47_3:=blk_frozen BK121.out 3)|(go_at_call 70;refine calls_of_args (args':=#[.slice (some ⟨gb121,0,none⟩) [t117,t118,t119,t120].length 4]) (by first|(rw [show [t117,t118,t119,t120].length=4 from rfl] <;> rfl)|rfl) ?_;(with_reducible refine (slices_Max_int_int.calls k2 _ _ [t117,t118,t119,t120] t123 _ ?side1 ?side2 A29.out).mono ?_);(case side1=>exact Go.Proofs.MyWords.C_box (t:=67) (cs:=#[.int .i64 t117,.int .i64 t118,.int .i64 t119,.int .i64 t120]) BK121.out (by rfl) (Nat.le_of_ble_eq_true rfl));(case side2=>exact Nat.le_refl _);rintro e w48 ⟨rfl,hb⟩;replace BK116:=bkb BK116 hb;replace BK121:=bkb BK121 hb;replace HB:=bst HB hb;(try clear hb)))
           go_roundg k2
           case measure=>have:=HK1.out;have:=HK2.out;omega
           case rel=>exact ⟨(wrap64 (x21_2 + 1)),(by first|rfl|(simp;done)|(simp [*];done)),H',⟨by have:=HK1.out;have:=HK2.out;omega⟩,⟨by repeat (first|(with_reducible first|exact HB.out|apply below_alloc|apply pw_below_drewN|apply below_drew1|refine below_set ?_ GE116.out|refine below_set ?_ GE121.out)|exact HB.out)⟩⟩
        ·
         rw [if_neg c18] at H;exact absurd H (by simp)
       ·
        rw [if_neg c17] at H;exact absurd H (by simp)
      ·
       rw [if_neg c16] at H;have c16b0:decide (x21_2 < (l0.length:Int))=false:=decide_eq_false c16;clear c16;obtain rfl:=Option.some.inj H;go_wp2;go_ret;exact ⟨by first|rfl|(simp [errW_none,errW_some] <;> rfl)|(simp [*,errW_none,errW_some] <;> rfl),by repeat (first|(with_reducible first|exact HB.out|apply below_alloc|apply pw_below_drewN|apply below_drew1)|exact HB.out)⟩
/-! ### norm_quat_double: function 71 -/
def norm_quat_double.f (a0_0:Int) (a0_1:Int) (a0_2:Int) (a0_3:Int) (a1_0:Int) (a1_1:Int) (a1_2:Int) (a1_3:Int):Option (Int × Int × Int × Int):=some (wrap64 ((wrap64 ((wrap64 ((wrap64 (a0_0 * a1_0)) - (wrap64 (a0_1 * a1_1)))) - (wrap64 (a0_2 * a1_2)))) - (wrap64 (a0_3 * a1_3))),wrap64 ((wrap64 ((wrap64 ((wrap64 (a0_0 * a1_1)) + (wrap64 (a0_1 * a1_0)))) + (wrap64 (a0_2 * a1_3)))) - (wrap64 (a0_3 * a1_2))),wrap64 ((wrap64 ((wrap64 ((wrap64 (a0_0 * a1_2)) - (wrap64 (a0_1 * a1_3)))) + (wrap64 (a0_2 * a1_0)))) + (wrap64 (a0_3 * a1_1))),wrap64 ((wrap64 ((wrap64 ((wrap64 (a0_0 * a1_3)) + (wrap64 (a0_1 * a1_2)))) - (wrap64 (a0_2 * a1_1)))) + (wrap64 (a0_3 * a1_0))))
set_option maxHeartbeats 8000000 in
set_option maxRecDepth 100000 in
theorem norm_quat_double.calls (a0_0:Int) (a0_1:Int) (a0_2:Int) (a0_3:Int) (a1_0:Int) (a1_1:Int) (a1_2:Int) (a1_3:Int) (r1:Int) (r2:Int) (r3:Int) (r4:Int) (w:World) (h:norm_quat_double.f a0_0 a0_1 a0_2 a0_3 a1_0 a1_1 a1_2 a1_3=some (r1,r2,r3,r4)) :
    Calls Try.prog 71 #[.agg #[.int .i64 a0_0,.int .i64 a0_1,.int .i64 a0_2,.int .i64 a0_3],.agg #[.int .i64 a1_0,.int .i64 a1_1,.int .i64 a1_2,.int .i64 a1_3]] w fun e w'=>e=.returned (.agg #[.int .i64 r1,.int .i64 r2,.int .i64 r3,.int .i64 r4])∧Below w.heap.size w w':=by
 have hu67:=Try.underlying67;have HB:=mk0 (Below.refl w.heap.size w);have H:(some (wrap64 ((wrap64 ((wrap64 ((wrap64 (a0_0 * a1_0)) - (wrap64 (a0_1 * a1_1)))) - (wrap64 (a0_2 * a1_2)))) - (wrap64 (a0_3 * a1_3))),wrap64 ((wrap64 ((wrap64 ((wrap64 (a0_0 * a1_1)) + (wrap64 (a0_1 * a1_0)))) + (wrap64 (a0_2 * a1_3)))) - (wrap64 (a0_3 * a1_2))),wrap64 ((wrap64 ((wrap64 ((wrap64 (a0_0 * a1_2)) - (wrap64 (a0_1 * a1_3)))) + (wrap64 (a0_2 * a1_0)))) + (wrap64 (a0_3 * a1_1))),wrap64 ((wrap64 ((wrap64 ((wrap64 (a0_0 * a1_3)) + (wrap64 (a0_1 * a1_2)))) - (wrap64 (a0_2 * a1_1)))) + (wrap64 (a0_3 * a1_0)))))=some (r1,r2,r3,r4):=h;clear h;simp only [Option.some.injEq,Prod.mk.injEq] at H;obtain ⟨rfl,rfl,rfl,rfl⟩:=H;(go_enter Try.func71,Try.ntmps71);dsimp only [List.append];go_wp2_with (first|((with_reducible refine gate_dst (N:=2) rfl ?_);refine box_event ?hg (N:=2) ?hd (cs:=#[.int .i64 a0_0,.int .i64 a0_1,.int .i64 a0_2,.int .i64 a0_3]) (t:=67) ?hr ?_;(case hd=>rfl);(case hg=>rfl);(case hr=>first|(go_simp;done)|(go_simp;rfl));intro gb124 hg w3 hbox hb;have BK124:=mk0 (hbox);have GW124:=szw hg HB;have GE124:=GW124;replace HB:=bst HB hb;clear hb hbox hg)|((with_reducible refine gate_dst (N:=3) rfl ?_);refine box_event ?hg (N:=3) ?hd (cs:=#[.int .i64 a1_0,.int .i64 a1_1,.int .i64 a1_2,.int .i64 a1_3]) (t:=67) ?hr ?_;(case hd=>rfl);(case hg=>rfl);(case hr=>first|(go_simp;done)|(go_simp;rfl));intro gb125 hg w4 hbox hb;have BK125:=mk0 (hbox);have GW125:=szw hg HB;have GE125:=GW125;have NB124_125:=nlt hg BK124;have NB125_124:=ngt hg BK124;replace BK124:=bkb BK124 hb;replace HB:=bst HB hb;clear hb hbox hg)|((with_reducible refine gate_dst (N:=4) rfl ?_);refine box_event ?hg (N:=4) ?hd (cs:=#[.int .i64 0,.int .i64 0,.int .i64 0,.int .i64 0]) (t:=67) ?hr ?_;(case hd=>rfl);(case hg=>rfl);(case hr=>first|(go_simp;done)|(go_simp;rfl));intro gb126 hg w5 hbox hb;have BK126:=mk0 (hbox);have GW126:=szw hg HB;have GE126:=GW126;have NB124_126:=nlt hg BK124;have NB126_124:=ngt hg BK124;have NB125_126:=nlt hg BK125;have NB126_125:=ngt hg BK125;replace BK124:=bkb BK124 hb;replace BK125:=bkb BK125 hb;replace HB:=bst HB hb;clear hb hbox hg;have hnb6:=NB124_125.out;have hnc6:=NB125_124.out;have hnb7:=NB124_126.out;have hnc7:=NB126_124.out;have hcz8_0:w5.cell? ⟨gb124,0,none⟩=some (.int .i64 a0_0):=(blk_cell BK124.out 0).trans rfl;have hcz8_1:w5.cell? ⟨gb124,1,none⟩=some (.int .i64 a0_1):=(blk_cell BK124.out 1).trans rfl;have hcz8_2:w5.cell? ⟨gb124,2,none⟩=some (.int .i64 a0_2):=(blk_cell BK124.out 2).trans rfl;have hcz8_3:w5.cell? ⟨gb124,3,none⟩=some (.int .i64 a0_3):=(blk_cell BK124.out 3).trans rfl;have hfz8_0:=blk_frozen BK124.out 0;have hfz8_1:=blk_frozen BK124.out 1;have hfz8_2:=blk_frozen BK124.out 2;have hfz8_3:=blk_frozen BK124.out 3;have hnb9:=NB125_126.out;have hnc9:=NB126_125.out;have hcz10_0:w5.cell? ⟨gb125,0,none⟩=some (.int .i64 a1_0):=(blk_cell BK125.out 0).trans rfl;have hcz10_1:w5.cell? ⟨gb125,1,none⟩=some (.int .i64 a1_1):=(blk_cell BK125.out 1).trans rfl;have hcz10_2:w5.cell? ⟨gb125,2,none⟩=some (.int .i64 a1_2):=(blk_cell BK125.out 2).trans rfl;have hcz10_3:w5.cell? ⟨gb125,3,none⟩=some (.int .i64 a1_3):=(blk_cell BK125.out 3).trans rfl;have hfz10_0:=blk_frozen BK125.out 0;have hfz10_1:=blk_frozen BK125.out 1;have hfz10_2:=blk_frozen BK125.out 2;have hfz10_3:=blk_frozen BK125.out 3;have hcz11_0:w5.cell? ⟨gb126,0,none⟩=some (.int .i64 0):=(blk_cell BK126.out 0).trans rfl;have hcz11_1:w5.cell? ⟨gb126,1,none⟩=some (.int .i64 0):=(blk_cell BK126.out 1).trans rfl;have hcz11_2:w5.cell? ⟨gb126,2,none⟩=some (.int .i64 0):=(blk_cell BK126.out 2).trans rfl;have hcz11_3:w5.cell? ⟨gb126,3,none⟩=some (.int .i64 0):=(blk_cell BK126.out 3).trans rfl;have hfz11_0:=blk_frozen BK126.out 0;have hfz11_1:=blk_frozen BK126.out 1;have hfz11_2:=blk_frozen BK126.out 2;have hfz11_3:=blk_frozen BK126.out 3))
 refine bodyPost_ret (results_cell_row rfl _ _ gb126 67 #[.int .i64 (wrap64 ((wrap64 ((wrap64 ((wrap64 (a0_0 * a1_0)) - (wrap64 (a0_1 * a1_1)))) - (wrap64 (a0_2 * a1_2)))) - (wrap64 (a0_3 * a1_3)))),.int .i64 (wrap64 ((wrap64 ((wrap64 ((wrap64 (a0_0 * a1_1)) + (wrap64 (a0_1 * a1_0)))) + (wrap64 (a0_2 * a1_3)))) - (wrap64 (a0_3 * a1_2)))),.int .i64 (wrap64 ((wrap64 ((wrap64 ((wrap64 (a0_0 * a1_2)) - (wrap64 (a0_1 * a1_3)))) + (wrap64 (a0_2 * a1_0)))) + (wrap64 (a0_3 * a1_1)))),.int .i64 (wrap64 ((wrap64 ((wrap64 ((wrap64 (a0_0 * a1_3)) + (wrap64 (a0_1 * a1_2)))) - (wrap64 (a0_2 * a1_1)))) + (wrap64 (a0_3 * a1_0))))] (0,0) _ rfl (by refine blk_put (cs:=#[.int .i64 (wrap64 ((wrap64 ((wrap64 ((wrap64 (a0_0 * a1_0)) - (wrap64 (a0_1 * a1_1)))) - (wrap64 (a0_2 * a1_2)))) - (wrap64 (a0_3 * a1_3)))),.int .i64 (wrap64 ((wrap64 ((wrap64 ((wrap64 (a0_0 * a1_1)) + (wrap64 (a0_1 * a1_0)))) + (wrap64 (a0_2 * a1_3)))) - (wrap64 (a0_3 * a1_2)))),.int .i64 (wrap64 ((wrap64 ((wrap64 ((wrap64 (a0_0 * a1_2)) - (wrap64 (a0_1 * a1_3)))) + (wrap64 (a0_2 * a1_0)))) + (wrap64 (a0_3 * a1_1)))),.int .i64 0]) ?_ 3 _ rfl;refine blk_put (cs:=#[.int .i64 (wrap64 ((wrap64 ((wrap64 ((wrap64 (a0_0 * a1_0)) - (wrap64 (a0_1 * a1_1)))) - (wrap64 (a0_2 * a1_2)))) - (wrap64 (a0_3 * a1_3)))),.int .i64 (wrap64 ((wrap64 ((wrap64 ((wrap64 (a0_0 * a1_1)) + (wrap64 (a0_1 * a1_0)))) + (wrap64 (a0_2 * a1_3)))) - (wrap64 (a0_3 * a1_2)))),.int .i64 0,.int .i64 0]) ?_ 2 _ rfl;refine blk_put (cs:=#[.int .i64 (wrap64 ((wrap64 ((wrap64 ((wrap64 (a0_0 * a1_0)) - (wrap64 (a0_1 * a1_1)))) - (wrap64 (a0_2 * a1_2)))) - (wrap64 (a0_3 * a1_3)))),.int .i64 0,.int .i64 0,.int .i64 0]) ?_ 1 _ rfl;refine blk_put (cs:=#[.int .i64 0,.int .i64 0,.int .i64 0,.int .i64 0]) ?_ 0 _ rfl;exact BK126.out) Try.underlying67 rfl (by kernel_rfl)) rfl ?_;exact ⟨by first|rfl|(simp [errW_none,errW_some] <;> rfl)|(simp [*,errW_none,errW_some] <;> rfl),by repeat (first|(with_reducible first|exact HB.out|apply below_alloc|apply pw_below_drewN|apply below_drew1|refine below_set ?_ GE124.out|refine below_set ?_ GE125.out|refine below_set ?_ GE126.out)|exact HB.out)⟩
/-! ### norm_product: function 54 -/
mutual
def norm_product.l0:Nat → List (S67) → Int → Int → Int → Int → Int → Int → Option (Int × Int × Int × Int)
  | 0,_,_,_,_,_,_,_=>none
  | k + 1,x8,x9,x10,x129000,x129001,x129002,x129003=>if x10 < x9 then (if 0 ≤ x10 then (if x10 < (x8.length:Int) then ((norm_quat_double.f x129000 x129001 x129002 x129003 ((rd_T67 x8 x10).f0) ((rd_T67 x8 x10).f1) ((rd_T67 x8 x10).f2) ((rd_T67 x8 x10).f3)).bind fun bt131=>(norm_product.l1 k x8 x9 x10 0 bt131.1 bt131.2.1 bt131.2.2.1 bt131.2.2.2)) else (none)) else (none)) else (some (x129000,x129001,x129002,x129003))
def norm_product.l1:Nat → List (S67) → Int → Int → Int → Int → Int → Int → Int → Option (Int × Int × Int × Int)
  | 0,_,_,_,_,_,_,_,_=>none
  | k + 1,x8,x9,x10,x17,x129000,x129001,x129002,x129003=>if x17 < 4 then (if x17=0 then (norm_product.l1 k x8 x9 x10 1 (wrap64 (Int.tdiv x129000 2)) x129001 x129002 x129003) else (if x17=1 then (norm_product.l1 k x8 x9 x10 2 x129000 (wrap64 (Int.tdiv x129001 2)) x129002 x129003) else (if x17=2 then (norm_product.l1 k x8 x9 x10 3 x129000 x129001 (wrap64 (Int.tdiv x129002 2)) x129003) else (if x17=3 then (norm_product.l1 k x8 x9 x10 4 x129000 x129001 x129002 (wrap64 (Int.tdiv x129003 2))) else (none))))) else (norm_product.l0 k x8 x9 (wrap64 (x10 + 1)) x129000 x129001 x129002 x129003)
end
def norm_product.f (k:Nat) (l0:List (S67)):Option (Int × Int × Int × Int):=norm_product.l0 k l0 (l0.length:Int) 0 2 0 0 0
theorem norm_product.mono_l:∀ k,(∀ y0 y1 y2 y3 y4 y5 y6,LeO (norm_product.l0 k y0 y1 y2 y3 y4 y5 y6) (norm_product.l0 (k + 1) y0 y1 y2 y3 y4 y5 y6))∧(∀ y0 y1 y2 y3 y4 y5 y6 y7,LeO (norm_product.l1 k y0 y1 y2 y3 y4 y5 y6 y7) (norm_product.l1 (k + 1) y0 y1 y2 y3 y4 y5 y6 y7))
  | 0=>⟨fun _ _ _ _ _ _ _ r h=>by simp [norm_product.l0] at h,fun _ _ _ _ _ _ _ _ r h=>by simp [norm_product.l1] at h⟩
  | k + 1=>by
    obtain ⟨ih0,ih1⟩:=norm_product.mono_l k
    refine ⟨?_,?_⟩
    · intro y0 y1 y2 y3 y4 y5 y6
      unfold norm_product.l0
      with_reducible repeat' first|exact ih0 _ _ _ _ _ _ _|exact ih1 _ _ _ _ _ _ _ _|exact LeO.refl _|exact LeO.none _|refine LeO.ite ?_ ?_|refine LeO.bind ?_ (fun _=>?_)
    · intro y0 y1 y2 y3 y4 y5 y6 y7
      unfold norm_product.l1
      with_reducible repeat' first|exact ih0 _ _ _ _ _ _ _|exact ih1 _ _ _ _ _ _ _ _|exact LeO.refl _|exact LeO.none _|refine LeO.ite ?_ ?_|refine LeO.bind ?_ (fun _=>?_)
theorem norm_product.mono:∀ a0 k,LeO (norm_product.f k a0) (norm_product.f (k + 1) a0):=by
  intro a0 k
  obtain ⟨ih0,ih1⟩:=norm_product.mono_l k
  unfold norm_product.f
  with_reducible repeat' first|exact ih0 _ _ _ _ _ _ _|exact ih1 _ _ _ _ _ _ _ _|exact LeO.refl _|exact LeO.none _|refine LeO.ite ?_ ?_|refine LeO.bind ?_ (fun _=>?_)
set_option maxHeartbeats 8000000 in
set_option maxRecDepth 100000 in
theorem norm_product.calls (k:Nat) (A0:Option Addr) (c0:Nat) (l0:List (S67)) (r1:Int) (r2:Int) (r3:Int) (r4:Int) (w:World) (hr0:Kd.C k67 w A0 l0.length l0) (hc0:l0.length ≤ c0) (h:norm_product.f k l0=some (r1,r2,r3,r4)) :
    Calls Try.prog 54 #[.slice A0 l0.length c0] w fun e w'=>e=.returned (.agg #[.int .i64 r1,.int .i64 r2,.int .i64 r3,.int .i64 r4])∧Below w.heap.size w w':=by
 have hu67:=Try.underlying67;have HR0:=mk0 hr0;have HC0:=mk0 hc0;clear hr0 hc0;have HB:=mk0 (Below.refl w.heap.size w);have H:(norm_product.l0 k l0 (l0.length:Int) 0 2 0 0 0)=some (r1,r2,r3,r4):=h;clear h;have H':=mk0 H;clear H;go_enter Try.func54,Try.ntmps54;go_wp2_with (first|((with_reducible refine gate_dst (N:=2) rfl ?_);refine box_event ?hg (N:=2) ?hd (cs:=#[.int .i64 0,.int .i64 0,.int .i64 0,.int .i64 0]) (t:=67) ?hr ?_;(case hd=>rfl);(case hg=>rfl);(case hr=>first|(go_simp;done)|(go_simp;rfl));intro gb127 hg w2 hbox hb;have BK127:=mk0 (hbox);have GW127:=szw hg HB;have GE127:=GW127;replace HB:=bst HB hb;clear hb hbox hg)|((with_reducible refine gate_dst (N:=3) rfl ?_);refine box_event ?hg (N:=3) ?hd (cs:=#[.int .i64 0,.int .i64 0,.int .i64 0,.int .i64 0]) (t:=67) ?hr ?_;(case hd=>rfl);(case hg=>rfl);(case hr=>first|(go_simp;done)|(go_simp;rfl));intro gb128 hg w3 hbox hb;have BK128:=mk0 (hbox);have GW128:=szw hg HB;have GE128:=GW128;have NB127_128:=nlt hg BK127;have NB128_127:=ngt hg BK127;replace BK127:=bkb BK127 hb;replace HB:=bst HB hb;clear hb hbox hg;have hnb4:=NB128_127.out;have hnc4:=NB127_128.out;have hcz5_0:w3.cell? ⟨gb128,0,none⟩=some (.int .i64 0):=(blk_cell BK128.out 0).trans rfl;have hcz5_1:w3.cell? ⟨gb128,1,none⟩=some (.int .i64 0):=(blk_cell BK128.out 1).trans rfl;have hcz5_2:w3.cell? ⟨gb128,2,none⟩=some (.int .i64 0):=(blk_cell BK128.out 2).trans rfl;have hcz5_3:w3.cell? ⟨gb128,3,none⟩=some (.int .i64 0):=(blk_cell BK128.out 3).trans rfl;have hfz5_0:=blk_frozen BK128.out 0;have hfz5_1:=blk_frozen BK128.out 1;have hfz5_2:=blk_frozen BK128.out 2;have hfz5_3:=blk_frozen BK128.out 3))
 go_loopg [10] k (fun kq v10 w'=>∃ (x10_1:Int) (x129000_1:Int) (x129001_1:Int) (x129002_1:Int) (x129003_1:Int),v10=.int .i64 x10_1∧Aside0 (norm_product.l0 kq l0 (l0.length:Int) x10_1 x129000_1 x129001_1 x129002_1 x129003_1=some (r1,r2,r3,r4))∧Aside0 (kq ≤ k)∧Aside0 (w'.heap[gb127]?=some (.cells #[.int .i64 0,.int .i64 0,.int .i64 0,.int .i64 0] 67 (0,0)))∧Aside0 (w'.heap[gb128]?=some (.cells #[.int .i64 x129000_1,.int .i64 x129001_1,.int .i64 x129002_1,.int .i64 x129003_1] 67 (0,0)))∧Aside0 (Below w.heap.size w w'))
 case atStart=>exact ⟨(0),(2),(0),(0),(0),(by first|rfl|(simp;done)|(simp [*];done)),H',⟨Nat.le_refl _⟩,⟨by (iterate 4 refine blk_far ?_ NB127_128.out _);exact BK127.out⟩,⟨by refine blk_put (cs:=#[.int .i64 2,.int .i64 0,.int .i64 0,.int .i64 0]) ?_ 3 _ rfl;refine blk_put (cs:=#[.int .i64 2,.int .i64 0,.int .i64 0,.int .i64 0]) ?_ 2 _ rfl;refine blk_put (cs:=#[.int .i64 2,.int .i64 0,.int .i64 0,.int .i64 0]) ?_ 1 _ rfl;refine blk_put (cs:=#[.int .i64 0,.int .i64 0,.int .i64 0,.int .i64 0]) ?_ 0 _ rfl;exact BK128.out⟩,⟨by repeat (first|(with_reducible first|exact HB.out|apply below_alloc|apply pw_below_drewN|apply below_drew1|refine below_set ?_ GE127.out|refine below_set ?_ GE128.out)|exact HB.out)⟩⟩
 case round =>
  clear H';try clear p2
  try clear c4
  try clear c5
  try clear hcz5_0
  try clear hcz5_1
  try clear hcz5_2
  try clear hcz5_3
  try clear hfz5_0
  try clear hfz5_1
  try clear hfz5_2
  try clear hfz5_3
  obtain ⟨x10_1,x129000_1,x129001_1,x129002_1,x129003_1,rfl,HA,HK1,BK127,BK128,HB⟩:=hrel;cases gk with
  | zero=>exact absurd HA.out (by simp [norm_product.l0])
  | succ k1 =>
   have H:=HA.out;clear HA;simp only [norm_product.l0] at H
   by_cases c6:x10_1 < (l0.length:Int)
   ·
    rw [if_pos c6] at H;have c6b0:decide (x10_1 < (l0.length:Int))=true:=decide_eq_true c6;clear c6
    by_cases c7:0 ≤ x10_1
    ·
     rw [if_pos c7] at H;have c7b0:decide (0 ≤ x10_1)=true:=decide_eq_true c7;clear c7
     by_cases c8:x10_1 < (l0.length:Int)
     ·
      rw [if_pos c8] at H;have c8b0:decide (x10_1 < (l0.length:Int))=true:=decide_eq_true c8;clear c8;replace H:=Option.bind_eq_some_iff.mp H;obtain ⟨⟨t131,t132,t133,t134⟩,A90,H⟩:=H;(try dsimp only at H);have A9:=mk0 A90;clear A90;have H':=mk0 H;clear H;have p129:0 ≤ (x10_1:Int):=of_decide_eq_true (by first|(with_reducible assumption)|assumption);have q129:x10_1 < (l0.length:Int):=of_decide_eq_true (by first|(with_reducible assumption)|assumption);obtain ⟨ad129,e129,hx129_0,hx129_1,hx129_2,hx129_3⟩:=at_T67 HR0.out x10_1 p129 q129;cases e129;replace hx129_0:=(HB.out.cell (World.block_lt_of_cell? w _ hx129_0)).trans hx129_0;replace hx129_1:=(HB.out.cell (World.block_lt_of_cell? w _ hx129_1)).trans hx129_1;replace hx129_2:=(HB.out.cell (World.block_lt_of_cell? w _ hx129_2)).trans hx129_2;replace hx129_3:=(HB.out.cell (World.block_lt_of_cell? w _ hx129_3)).trans hx129_3;replace p129:=eq_true p129;replace q129:=eq_true q129;go_wp2_with (first|((with_reducible refine gate_dst (N:=5) rfl ?_);refine box_event ?hg (N:=5) ?hd (cs:=#[.int .i64 0,.int .i64 0,.int .i64 0,.int .i64 0]) (t:=67) ?hr ?_;(case hd=>rfl);(case hg=>rfl);(case hr=>first|(go_simp;done)|(go_simp;rfl));intro gb130 hg w10 hbox hb;have BK130:=mk0 (hbox);have GW130:=szw hg HB;have GE130:=GW130;have NB127_130:=nlt hg BK127;have NB130_127:=ngt hg BK127;have NB128_130:=nlt hg BK128;have NB130_128:=ngt hg BK128;replace BK127:=bkb BK127 hb;replace BK128:=bkb BK128 hb;replace HB:=bst HB hb;clear hb hbox hg;have hnb11:=NB130_127.out;have hnc11:=NB127_130.out;have hnb12:=NB130_128.out;have hnc12:=NB128_130.out;have hcz13_0:w10.cell? ⟨gb130,0,none⟩=some (.int .i64 0):=(blk_cell BK130.out 0).trans rfl;have hcz13_1:w10.cell? ⟨gb130,1,none⟩=some (.int .i64 0):=(blk_cell BK130.out 1).trans rfl;have hcz13_2:w10.cell? ⟨gb130,2,none⟩=some (.int .i64 0):=(blk_cell BK130.out 2).trans rfl;have hcz13_3:w10.cell? ⟨gb130,3,none⟩=some (.int .i64 0):=(blk_cell BK130.out 3).trans rfl;have hfz13_0:=blk_frozen BK130.out 0;have hfz13_1:=blk_frozen BK130.out 1;have hfz13_2:=blk_frozen BK130.out 2;have hfz13_3:=blk_frozen BK130.out 3;have hnb14:=NB128_127.out;have hnc14:=NB127_128.out;have hcz15_0:w10.cell? ⟨gb128,0,none⟩=some (.int .i64 x129000_1):=(blk_cell BK128.out 0).trans rfl;have hcz15_1:w10.cell? ⟨gb128,1,none⟩=some (.int .i64 x129001_1):=(blk_cell BK128.out 1).trans rfl;have hcz15_2:w10.cell? ⟨gb128,2,none⟩=some (.int .i64 x129002_1):=(blk_cell BK128.out 2).trans rfl;have hcz15_3:w10.cell? ⟨gb128,3,none⟩=some (.int .i64 x129003_1):=(blk_cell BK128.out 3).trans rfl;have hfz15_0:=blk_frozen BK128.out 0;have hfz15_1:=blk_frozen BK128.out 1;have hfz15_2:=blk_frozen BK128.out 2;have hfz15_3:=blk_frozen BK128.out 3)|((with_reducible refine gate_callee (f:=71) rfl ?_);refine goesL_ (some 16) rfl rfl Try.func71 (by kernel_rfl) rfl #[.agg #[.int .i64 x129000_1,.int .i64 x129001_1,.int .i64 x129002_1,.int .i64 x129003_1],.agg #[.int .i64 ((rd_T67 l0 x10_1).f0),.int .i64 ((rd_T67 l0 x10_1).f1),.int .i64 ((rd_T67 l0 x10_1).f2),.int .i64 ((rd_T67 l0 x10_1).f3)]] rfl (by (try simp only [List.map_toArray,List.map_cons,List.map_nil]);first|done|rfl|(simp only [List.length_drop,List.length_take];rfl)) ?_;(with_reducible refine (norm_quat_double.calls x129000_1 x129001_1 x129002_1 x129003_1 ((rd_T67 l0 x10_1).f0) ((rd_T67 l0 x10_1).f1) ((rd_T67 l0 x10_1).f2) ((rd_T67 l0 x10_1).f3) t131 t132 t133 t134 _ A9.out).mono ?_);rintro e w16 ⟨rfl,hb⟩;refine ⟨_,rfl,?_⟩;replace BK127:=mk0 (blk_below (g:=gb127) (o:=.cells #[.int .i64 0,.int .i64 0,.int .i64 0,.int .i64 0] 67 (0,0)) (by (iterate 4 refine blk_far ?_ NB127_130.out _);exact BK127.out) hb);replace BK128:=mk0 (blk_below (g:=gb128) (o:=.cells #[.int .i64 x129000_1,.int .i64 x129001_1,.int .i64 x129002_1,.int .i64 x129003_1] 67 (0,0)) (by (iterate 4 refine blk_far ?_ NB128_130.out _);exact BK128.out) hb);replace BK130:=mk0 (blk_below (g:=gb130) (o:=.cells #[.int .i64 ((rd_T67 l0 x10_1).f0),.int .i64 ((rd_T67 l0 x10_1).f1),.int .i64 ((rd_T67 l0 x10_1).f2),.int .i64 ((rd_T67 l0 x10_1).f3)] 67 (0,0)) (by refine blk_put (cs:=#[.int .i64 ((rd_T67 l0 x10_1).f0),.int .i64 ((rd_T67 l0 x10_1).f1),.int .i64 ((rd_T67 l0 x10_1).f2),.int .i64 0]) ?_ 3 _ rfl;refine blk_put (cs:=#[.int .i64 ((rd_T67 l0 x10_1).f0),.int .i64 ((rd_T67 l0 x10_1).f1),.int .i64 0,.int .i64 0]) ?_ 2 _ rfl;refine blk_put (cs:=#[.int .i64 ((rd_T67 l0 x10_1).f0),.int .i64 0,.int .i64 0,.int .i64 0]) ?_ 1 _ rfl;refine blk_put (cs:=#[.int .i64 0,.int .i64 0,.int .i64 0,.int .i64 0]) ?_ 0 _ rfl;exact BK130.out) hb);replace HB:=mk0 (below_step (by repeat (with_reducible first|exact HB.out|refine below_set ?_ GE127.out|refine below_set ?_ GE128.out|refine below_set ?_ GE130.out)) hb);(try clear hb);have hcz17_0:w16.cell? ⟨gb128,0,none⟩=some (.int .i64 x129000_1):=(blk_cell BK128.out 0).trans rfl;have hcz17_1:w16.cell? ⟨gb128,1,none⟩=some (.int .i64 x129001_1):=(blk_cell BK128.out 1).trans rfl;have hcz17_2:w16.cell? ⟨gb128,2,none⟩=some (.int .i64 x129002_1):=(blk_cell BK128.out 2).trans rfl;have hcz17_3:w16.cell? ⟨gb128,3,none⟩=some (.int .i64 x129003_1):=(blk_cell BK128.out 3).trans rfl;have hfz17_0:=blk_frozen BK128.out 0;have hfz17_1:=blk_frozen BK128.out 1;have hfz17_2:=blk_frozen BK128.out 2;have hfz17_3:=blk_frozen BK128.out 3))
      go_loopg [17] k1 (fun kq v17 w'=>∃ (x17_2:Int) (x129000_2:Int) (x129001_2:Int) (x129002_2:Int) (x129003_2:Int),v17=.int .i64 x17_2∧Aside0 (norm_product.l1 kq l0 (l0.length:Int) x10_1 x17_2 x129000_2 x129001_2 x129002_2 x129003_2=some (r1,r2,r3,r4))∧Aside0 (kq ≤ k1)∧Aside0 (w'.heap[gb127]?=some (.cells #[.int .i64 0,.int .i64 0,.int .i64 0,.int .i64 0] 67 (0,0)))∧Aside0 (w'.heap[gb128]?=some (.cells #[.int .i64 x129000_2,.int .i64 x129001_2,.int .i64 x129002_2,.int .i64 x129003_2] 67 (0,0)))∧Aside0 (w'.heap[gb130]?=some (.cells #[.int .i64 ((rd_T67 l0 x10_1).f0),.int .i64 ((rd_T67 l0 x10_1).f1),.int .i64 ((rd_T67 l0 x10_1).f2),.int .i64 ((rd_T67 l0 x10_1).f3)] 67 (0,0)))∧Aside0 (Below w.heap.size w w'))
      case atStart=>exact ⟨(0),(t131),(t132),(t133),(t134),(by first|rfl|(simp;done)|(simp [*];done)),H',⟨Nat.le_refl _⟩,⟨by (iterate 4 refine blk_far ?_ NB127_128.out _);exact BK127.out⟩,⟨by refine blk_put (cs:=#[.int .i64 t131,.int .i64 t132,.int .i64 t133,.int .i64 x129003_1]) ?_ 3 _ rfl;refine blk_put (cs:=#[.int .i64 t131,.int .i64 t132,.int .i64 x129002_1,.int .i64 x129003_1]) ?_ 2 _ rfl;refine blk_put (cs:=#[.int .i64 t131,.int .i64 x129001_1,.int .i64 x129002_1,.int .i64 x129003_1]) ?_ 1 _ rfl;refine blk_put (cs:=#[.int .i64 x129000_1,.int .i64 x129001_1,.int .i64 x129002_1,.int .i64 x129003_1]) ?_ 0 _ rfl;exact BK128.out⟩,⟨by (iterate 4 refine blk_far ?_ NB130_128.out _);exact BK130.out⟩,⟨by repeat (first|(with_reducible first|exact HB.out|apply below_alloc|apply pw_below_drewN|apply below_drew1|refine below_set ?_ GE127.out|refine below_set ?_ GE128.out|refine below_set ?_ GE130.out)|exact HB.out)⟩⟩
      case round =>
       clear H';try clear c1
       try clear p1
       try clear q1
       try clear hx1
       try clear p2
       try clear c4
       try clear c5
       try clear c6
       try clear c6b0
       try clear c7
       try clear c7b0
       try clear c8
       try clear c8b0
       try clear c11
       try clear c12
       try clear p12
       try clear q12
       try clear hx12
       try clear c14
       try clear hcz13_0
       try clear hcz13_1
       try clear hcz13_2
       try clear hcz13_3
       try clear hcz15_0
       try clear hcz15_1
       try clear hcz15_2
       try clear hcz15_3
       try clear hcz17_0
       try clear hcz17_1
       try clear hcz17_2
       try clear hcz17_3
       try clear hcz5_0
       try clear hcz5_1
       try clear hcz5_2
       try clear hcz5_3
       try clear hfz13_0
       try clear hfz13_1
       try clear hfz13_2
       try clear hfz13_3
       try clear hfz15_0
       try clear hfz15_1
       try clear hfz15_2
       try clear hfz15_3
       try clear hfz17_0
       try clear hfz17_1
       try clear hfz17_2
       try clear hfz17_3
       try clear hfz5_0
       try clear hfz5_1
       try clear hfz5_2
       try clear hfz5_3
       try clear hx129_0
       try clear hx129_1
       try clear hx129_2
       try clear hx129_3
       try clear p129
       try clear p2
       try clear q129
       obtain ⟨x17_2,x129000_2,x129001_2,x129002_2,x129003_2,rfl,HA,HK2,BK127,BK128,BK130,HB⟩:=hrel;cases gk with
       | zero=>exact absurd HA.out (by simp [norm_product.l1])
       | succ k2 =>
        have H:=HA.out;clear HA;simp only [norm_product.l1] at H
        by_cases c18:x17_2 < 4
        ·
         rw [if_pos c18] at H;have c18b0:decide (x17_2 < 4)=true:=decide_eq_true c18;clear c18
         by_cases c19:x17_2=0
         ·
          subst c19;have H1:(norm_product.l1 k2 l0 (l0.length:Int) x10_1 1 (wrap64 (Int.tdiv x129000_2 2)) x129001_2 x129002_2 x129003_2)=some (r1,r2,r3,r4):=by (try rw [if_pos rfl] at H);first|exact H|simpa using H
          clear H;have H:=H1;clear H1;have H':=mk0 H;clear H;have hnb20:=NB128_127.out;have hnc20:=NB127_128.out;have hnb21:=NB128_130.out;have hnc21:=NB130_128.out;have hcz22_0:wr.cell? ⟨gb128,0,none⟩=some (.int .i64 x129000_2):=(blk_cell BK128.out 0).trans rfl;have hcz22_1:wr.cell? ⟨gb128,1,none⟩=some (.int .i64 x129001_2):=(blk_cell BK128.out 1).trans rfl;have hcz22_2:wr.cell? ⟨gb128,2,none⟩=some (.int .i64 x129002_2):=(blk_cell BK128.out 2).trans rfl;have hcz22_3:wr.cell? ⟨gb128,3,none⟩=some (.int .i64 x129003_2):=(blk_cell BK128.out 3).trans rfl;have hfz22_0:=blk_frozen BK128.out 0;have hfz22_1:=blk_frozen BK128.out 1;have hfz22_2:=blk_frozen BK128.out 2;have hfz22_3:=blk_frozen BK128.out 3;go_wp2;go_roundg k2
          case measure=>have:=HK1.out;have:=HK2.out;omega
          case rel=>exact ⟨(1),(wrap64 (Int.tdiv x129000_2 2)),(x129001_2),(x129002_2),(x129003_2),(by first|rfl|(simp;done)|(simp [*];done)),H',⟨by have:=HK1.out;have:=HK2.out;omega⟩,⟨by refine blk_far ?_ NB127_128.out _;exact BK127.out⟩,⟨by refine blk_put (cs:=#[.int .i64 x129000_2,.int .i64 x129001_2,.int .i64 x129002_2,.int .i64 x129003_2]) ?_ 0 _ rfl;exact BK128.out⟩,⟨by refine blk_far ?_ NB130_128.out _;exact BK130.out⟩,⟨by repeat (first|(with_reducible first|exact HB.out|apply below_alloc|apply pw_below_drewN|apply below_drew1|refine below_set ?_ GE127.out|refine below_set ?_ GE128.out|refine below_set ?_ GE130.out)|exact HB.out)⟩⟩
         ·
          rw [if_neg c19] at H
          by_cases c23:x17_2=1
          ·
           subst c23;have H1:(norm_product.l1 k2 l0 (l0.length:Int) x10_1 2 x129000_2 (wrap64 (Int.tdiv x129001_2 2)) x129002_2 x129003_2)=some (r1,r2,r3,r4):=by (try rw [if_pos rfl] at H);first|exact H|simpa using H
           clear H;have H:=H1;clear H1;have H':=mk0 H;clear H;have hnb24:=NB128_127.out;have hnc24:=NB127_128.out;have hnb25:=NB128_130.out;have hnc25:=NB130_128.out;have hcz26_0:wr.cell? ⟨gb128,0,none⟩=some (.int .i64 x129000_2):=(blk_cell BK128.out 0).trans rfl;have hcz26_1:wr.cell? ⟨gb128,1,none⟩=some (.int .i64 x129001_2):=(blk_cell BK128.out 1).trans rfl;have hcz26_2:wr.cell? ⟨gb128,2,none⟩=some (.int .i64 x129002_2):=(blk_cell BK128.out 2).trans rfl;have hcz26_3:wr.cell? ⟨gb128,3,none⟩=some (.int .i64 x129003_2):=(blk_cell BK128.out 3).trans rfl;have hfz26_0:=blk_frozen BK128.out 0;have hfz26_1:=blk_frozen BK128.out 1;have hfz26_2:=blk_frozen BK128.out 2;have hfz26_3:=blk_frozen BK128.out 3;go_wp2;go_roundg k2
           case measure=>have:=HK1.out;have:=HK2.out;omega
           case rel=>exact ⟨(2),(x129000_2),(wrap64 (Int.tdiv x129001_2 2)),(x129002_2),(x129003_2),(by first|rfl|(simp;done)|(simp [*];done)),H',⟨by have:=HK1.out;have:=HK2.out;omega⟩,⟨by refine blk_far ?_ NB127_128.out _;exact BK127.out⟩,⟨by refine blk_put (cs:=#[.int .i64 x129000_2,.int .i64 x129001_2,.int .i64 x129002_2,.int .i64 x129003_2]) ?_ 1 _ rfl;exact BK128.out⟩,⟨by refine blk_far ?_ NB130_128.out _;exact BK130.out⟩,⟨by repeat (first|(with_reducible first|exact HB.out|apply below_alloc|apply pw_below_drewN|apply below_drew1|refine below_set ?_ GE127.out|refine below_set ?_ GE128.out|refine below_set ?_ GE130.out)|exact HB.out)⟩⟩
          ·
           rw [if_neg c23] at H
           by_cases c27:x17_2=2
           ·
            subst c27;have H1:(norm_product.l1 k2 l0 (l0.length:Int) x10_1 3 x129000_2 x129001_2 (wrap64 (Int.tdiv x129002_2 2)) x129003_2)=some (r1,r2,r3,r4):=by (try rw [if_pos rfl] at H);first|exact H|simpa using H
            clear H;have H:=H1;clear H1;have H':=mk0 H;clear H;have hnb28:=NB128_127.out;have hnc28:=NB127_128.out;have hnb29:=NB128_130.out;have hnc29:=NB130_128.out;have hcz30_0:wr.cell? ⟨gb128,0,none⟩=some (.int .i64 x129000_2):=(blk_cell BK128.out 0).trans rfl;have hcz30_1:wr.cell? ⟨gb128,1,none⟩=some (.int .i64 x129001_2):=(blk_cell BK128.out 1).trans rfl;have hcz30_2:wr.cell? ⟨gb128,2,none⟩=some (.int .i64 x129002_2):=(blk_cell BK128.out 2).trans rfl;have hcz30_3:wr.cell? ⟨gb128,3,none⟩=some (.int .i64 x129003_2):=(blk_cell BK128.out 3).trans rfl;have hfz30_0:=blk_frozen BK128.out 0;have hfz30_1:=blk_frozen BK128.out 1;have hfz30_2:=blk_frozen BK128.out 2;have hfz30_3:=blk_frozen BK128.out 3;go_wp2;go_roundg k2
            case measure=>have:=HK1.out;have:=HK2.out;omega
            case rel=>exact ⟨(3),(x129000_2),(x129001_2),(wrap64 (Int.tdiv x129002_2 2)),(x129003_2),(by first|rfl|(simp;done)|(simp [*];done)),H',⟨by have:=HK1.out;have:=HK2.out;omega⟩,⟨by refine blk_far ?_ NB127_128.out _;exact BK127.out⟩,⟨by refine blk_put (cs:=#[.int .i64 x129000_2,.int .i64 x129001_2,.int .i64 x129002_2,.int .i64 x129003_2]) ?_ 2 _ rfl;exact BK128.out⟩,⟨by refine blk_far ?_ NB130_128.out _;exact BK130.out⟩,⟨by repeat (first|(with_reducible first|exact HB.out|apply below_alloc|apply pw_below_drewN|apply below_drew1|refine below_set ?_ GE127.out|refine below_set ?_ GE128.out|refine below_set ?_ GE130.out)|exact HB.out)⟩⟩
           ·
            rw [if_neg c27] at H
            by_cases c31:x17_2=3
            ·
             subst c31;have H1:(norm_product.l1 k2 l0 (l0.length:Int) x10_1 4 x129000_2 x129001_2 x129002_2 (wrap64 (Int.tdiv x129003_2 2)))=some (r1,r2,r3,r4):=by (try rw [if_pos rfl] at H);first|exact H|simpa using H
             clear H;have H:=H1;clear H1;have H':=mk0 H;clear H;have hnb32:=NB128_127.out;have hnc32:=NB127_128.out;have hnb33:=NB128_130.out;have hnc33:=NB130_128.out;have hcz34_0:wr.cell? ⟨gb128,0,none⟩=some (.int .i64 x129000_2):=(blk_cell BK128.out 0).trans rfl;have hcz34_1:wr.cell? ⟨gb128,1,none⟩=some (.int .i64 x129001_2):=(blk_cell BK128.out 1).trans rfl;have hcz34_2:wr.cell? ⟨gb128,2,none⟩=some (.int .i64 x129002_2):=(blk_cell BK128.out 2).trans rfl;have hcz34_3:wr.cell? ⟨gb128,3,none⟩=some (.int .i64 x129003_2):=(blk_cell BK128.out 3).trans rfl;have hfz34_0:=blk_frozen BK128.out 0;have hfz34_1:=blk_frozen BK128.out 1;have hfz34_2:=blk_frozen BK128.out 2;have hfz34_3:=blk_frozen BK128.out 3;go_wp2;go_roundg k2
             case measure=>have:=HK1.out;have:=HK2.out;omega
             case rel=>exact ⟨(4),(x129000_2),(x129001_2),(x129002_2),(wrap64 (Int.tdiv x129003_2 2)),(by first|rfl|(simp;done)|(simp [*];done)),H',⟨by have:=HK1.out;have:=HK2.out;omega⟩,⟨by refine blk_far ?_ NB127_128.out _;exact BK127.out⟩,⟨by refine blk_put (cs:=#[.int .i64 x129000_2,.int .i64 x129001_2,.int .i64 x129002_2,.int .i64 x129003_2]) ?_ 3 _ rfl;exact BK128.out⟩,⟨by refine blk_far ?_ NB130_128.out _;exact BK130.out⟩,⟨by repeat (first|(with_reducible first|exact HB.out|apply below_alloc|apply pw_below_drewN|apply below_drew1|refine below_set ?_ GE127.out|refine below_set ?_ GE128.out|refine below_set ?_ GE130.out)|exact HB.out)⟩⟩
            ·
             rw [if_neg c31] at H;exact absurd H (by simp)
        ·
         rw [if_neg c18] at H;have c18b0:decide (x17_2 < 4)=false:=decide_eq_false c18;clear c18;have H':=mk0 H;clear H;go_wp2;go_roundg k2
         case measure=>have:=HK1.out;have:=HK2.out;omega
         case rel=>exact ⟨(wrap64 (x10_1 + 1)),(x129000_2),(x129001_2),(x129002_2),(x129003_2),(by first|rfl|(simp;done)|(simp [*];done)),H',⟨by have:=HK1.out;have:=HK2.out;omega⟩,⟨by exact BK127.out⟩,⟨by exact BK128.out⟩,⟨by repeat (first|(with_reducible first|exact HB.out|apply below_alloc|apply pw_below_drewN|apply below_drew1|refine below_set ?_ GE127.out|refine below_set ?_ GE128.out|refine below_set ?_ GE130.out)|exact HB.out)⟩⟩
     ·
      rw [if_neg c8] at H;exact absurd H (by simp)
    ·
     rw [if_neg c7] at H;exact absurd H (by simp)
   ·
    rw [if_neg c6] at H;have c6b0:decide (x10_1 < (l0.length:Int))=false:=decide_eq_false c6;clear c6;simp only [Option.some.injEq,Prod.mk.injEq] at H;obtain ⟨rfl,rfl,rfl,rfl⟩:=H;have hnb35:=NB128_127.out;have hnc35:=NB127_128.out;have hcz36_0:wr.cell? ⟨gb128,0,none⟩=some (.int .i64 x129000_1):=(blk_cell BK128.out 0).trans rfl;have hcz36_1:wr.cell? ⟨gb128,1,none⟩=some (.int .i64 x129001_1):=(blk_cell BK128.out 1).trans rfl;have hcz36_2:wr.cell? ⟨gb128,2,none⟩=some (.int .i64 x129002_1):=(blk_cell BK128.out 2).trans rfl;have hcz36_3:wr.cell? ⟨gb128,3,none⟩=some (.int .i64 x129003_1):=(blk_cell BK128.out 3).trans rfl;have hfz36_0:=blk_frozen BK128.out 0;have hfz36_1:=blk_frozen BK128.out 1;have hfz36_2:=blk_frozen BK128.out 2;have hfz36_3:=blk_frozen BK128.out 3;have hcz37_0:wr.cell? ⟨gb127,0,none⟩=some (.int .i64 0):=(blk_cell BK127.out 0).trans rfl;have hcz37_1:wr.cell? ⟨gb127,1,none⟩=some (.int .i64 0):=(blk_cell BK127.out 1).trans rfl;have hcz37_2:wr.cell? ⟨gb127,2,none⟩=some (.int .i64 0):=(blk_cell BK127.out 2).trans rfl;have hcz37_3:wr.cell? ⟨gb127,3,none⟩=some (.int .i64 0):=(blk_cell BK127.out 3).trans rfl;have hfz37_0:=blk_frozen BK127.out 0;have hfz37_1:=blk_frozen BK127.out 1;have hfz37_2:=blk_frozen BK127.out 2;have hfz37_3:=blk_frozen BK127.out 3;go_wp2;refine bodyPost_ret (results_cell_row rfl _ _ gb127 67 #[.int .i64 x129000_1,.int .i64 x129001_1,.int .i64 x129002_1,.int .i64 x129003_1] (0,0) _ rfl (by refine blk_put (cs:=#[.int .i64 x129000_1,.int .i64 x129001_1,.int .i64 x129002_1,.int .i64 0]) ?_ 3 _ rfl;refine blk_put (cs:=#[.int .i64 x129000_1,.int .i64 x129001_1,.int .i64 0,.int .i64 0]) ?_ 2 _ rfl;refine blk_put (cs:=#[.int .i64 x129000_1,.int .i64 0,.int .i64 0,.int .i64 0]) ?_ 1 _ rfl;refine blk_put (cs:=#[.int .i64 0,.int .i64 0,.int .i64 0,.int .i64 0]) ?_ 0 _ rfl;exact BK127.out) Try.underlying67 rfl (by kernel_rfl)) rfl ?_;exact ⟨by first|rfl|(simp [errW_none,errW_some] <;> rfl)|(simp [*,errW_none,errW_some] <;> rfl),by repeat (first|(with_reducible first|exact HB.out|apply below_alloc|apply pw_below_drewN|apply below_drew1|refine below_set ?_ GE127.out|refine below_set ?_ GE128.out)|exact HB.out)⟩
/-! ### cmp_isNaN_int: function 79 -/
def cmp_isNaN_int.f (a0:Int):Option (Bool):=some (a0 != a0)
set_option maxHeartbeats 8000000 in
set_option maxRecDepth 100000 in
theorem cmp_isNaN_int.calls (a0:Int) (r:Bool) (w:World) (h:cmp_isNaN_int.f a0=some r) :
    Calls Try.prog 79 #[.int .i64 a0] w fun e w'=>e=.returned (.bool r)∧Drawn0 w w':=by
 have H:(some (a0 != a0))=some r:=h;clear h;obtain rfl:=Option.some.inj H;go_enter Try.func79,Try.ntmps79;go_wp2;go_ret;exact ⟨by first|rfl|(simp;done)|(simp [*];done),by repeat (first|exact Drawn0.refl _|apply Drawn0.step)⟩
/-! ### cmp_Compare_int: function 74 -/
def cmp_Compare_int.f (a0:Int) (a1:Int):Option (Int):=(cmp_isNaN_int.f a0).bind fun t135=>((cmp_isNaN_int.f a1).bind fun t136=>(if t135=true then (if t136=true then (some 0) else (some (-1))) else (if t136=true then (some 1) else (if a0 < a1 then (some (-1)) else (if a0 > a1 then (some 1) else (some 0))))))
set_option maxHeartbeats 8000000 in
set_option maxRecDepth 100000 in
theorem cmp_Compare_int.calls (a0:Int) (a1:Int) (r:Int) (w:World) (h:cmp_Compare_int.f a0 a1=some r) :
    Calls Try.prog 74 #[.int .i64 a0,.int .i64 a1] w fun e w'=>e=.returned (.int .i64 r)∧Drawn0 w w':=by
 have H:((cmp_isNaN_int.f a0).bind fun t135=>((cmp_isNaN_int.f a1).bind fun t136=>(if t135=true then (if t136=true then (some 0) else (some (-1))) else (if t136=true then (some 1) else (if a0 < a1 then (some (-1)) else (if a0 > a1 then (some 1) else (some 0)))))))=some r:=h;clear h;replace H:=Option.bind_eq_some_iff.mp H;obtain ⟨t135,A30,H⟩:=H;(try dsimp only at H);have A3:=mk0 A30;clear A30;replace H:=Option.bind_eq_some_iff.mp H;obtain ⟨t136,A40,H⟩:=H;(try dsimp only at H);have A4:=mk0 A40;clear A40
 by_cases c5:t135=true
 ·
  subst c5;have H1:(if t136=true then (some 0) else (some (-1)))=some r:=by rw [if_pos rfl] at H;exact H
  clear H;have H:=H1;clear H1
  by_cases c6:t136=true
  ·
   subst c6;have H1:(some 0)=some r:=by rw [if_pos rfl] at H;exact H
   clear H;have H:=H1;clear H1;obtain rfl:=Option.some.inj H;go_enter Try.func74,Try.ntmps74;go_wp2_with (first|((with_reducible refine gate_callee (f:=79) rfl ?_);refine goesL_ (some 8) rfl rfl Try.func79 (by kernel_rfl) rfl #[.int .i64 a0] rfl (by (try simp only [List.map_toArray,List.map_cons,List.map_nil]);first|done|rfl|(simp only [List.length_drop,List.length_take];rfl)) ?_;(with_reducible refine (cmp_isNaN_int.calls a0 true _ A3.out).mono ?_);rintro e w' ⟨rfl,⟨nd,rfl⟩⟩;refine ⟨_,rfl,?_⟩)|((with_reducible refine gate_callee (f:=79) rfl ?_);refine goesL_ (some 10) rfl rfl Try.func79 (by kernel_rfl) rfl #[.int .i64 a1] rfl (by (try simp only [List.map_toArray,List.map_cons,List.map_nil]);first|done|rfl|(simp only [List.length_drop,List.length_take];rfl)) ?_;(with_reducible refine (cmp_isNaN_int.calls a1 true _ A4.out).mono ?_);rintro e w' ⟨rfl,⟨nd,rfl⟩⟩;refine ⟨_,rfl,?_⟩));go_ret;exact ⟨by first|rfl|(simp;done)|(simp [*];done),by repeat (first|exact Drawn0.refl _|apply Drawn0.step)⟩
  ·
   replace c6:=Bool.eq_false_iff.mpr c6;subst c6;have H1:(some (-1))=some r:=by rw [if_neg (show ¬ (false=true) by decide)] at H;exact H
   clear H;have H:=H1;clear H1;obtain rfl:=Option.some.inj H;go_enter Try.func74,Try.ntmps74;go_wp2_with (first|((with_reducible refine gate_callee (f:=79) rfl ?_);refine goesL_ (some 8) rfl rfl Try.func79 (by kernel_rfl) rfl #[.int .i64 a0] rfl (by (try simp only [List.map_toArray,List.map_cons,List.map_nil]);first|done|rfl|(simp only [List.length_drop,List.length_take];rfl)) ?_;(with_reducible refine (cmp_isNaN_int.calls a0 true _ A3.out).mono ?_);rintro e w' ⟨rfl,⟨nd,rfl⟩⟩;refine ⟨_,rfl,?_⟩)|((with_reducible refine gate_callee (f:=79) rfl ?_);refine goesL_ (some 10) rfl rfl Try.func79 (by kernel_rfl) rfl #[.int .i64 a1] rfl (by (try simp only [List.map_toArray,List.map_cons,List.map_nil]);first|done|rfl|(simp only [List.length_drop,List.length_take];rfl)) ?_;(with_reducible refine (cmp_isNaN_int.calls a1 false _ A4.out).mono ?_);rintro e w' ⟨rfl,⟨nd,rfl⟩⟩;refine ⟨_,rfl,?_⟩));go_ret;exact ⟨by first|rfl|(simp;done)|(simp [*];done),by repeat (first|exact Drawn0.refl _|apply Drawn0.step)⟩
 ·
  replace c5:=Bool.eq_false_iff.mpr c5;subst c5;have H1:(if t136=true then (some 1) else (if a0 < a1 then (some (-1)) else (if a0 > a1 then (some 1) else (some 0))))=some r:=by rw [if_neg (show ¬ (false=true) by decide)] at H;exact H
  clear H;have H:=H1;clear H1
  by_cases c7:t136=true
  ·
   subst c7;have H1:(some 1)=some r:=by rw [if_pos rfl] at H;exact H
   clear H;have H:=H1;clear H1;obtain rfl:=Option.some.inj H;go_enter Try.func74,Try.ntmps74;go_wp2_with (first|((with_reducible refine gate_callee (f:=79) rfl ?_);refine goesL_ (some 8) rfl rfl Try.func79 (by kernel_rfl) rfl #[.int .i64 a0] rfl (by (try simp only [List.map_toArray,List.map_cons,List.map_nil]);first|done|rfl|(simp only [List.length_drop,List.length_take];rfl)) ?_;(with_reducible refine (cmp_isNaN_int.calls a0 false _ A3.out).mono ?_);rintro e w' ⟨rfl,⟨nd,rfl⟩⟩;refine ⟨_,rfl,?_⟩)|((with_reducible refine gate_callee (f:=79) rfl ?_);refine goesL_ (some 10) rfl rfl Try.func79 (by kernel_rfl) rfl #[.int .i64 a1] rfl (by (try simp only [List.map_toArray,List.map_cons,List.map_nil]);first|done|rfl|(simp only [List.length_drop,List.length_take];rfl)) ?_;(with_reducible refine (cmp_isNaN_int.calls a1 true _ A4.out).mono ?_);rintro e w' ⟨rfl,⟨nd,rfl⟩⟩;refine ⟨_,rfl,?_⟩));go_ret;exact ⟨by first|rfl|(simp;done)|(simp [*];done),by repeat (first|exact Drawn0.refl _|apply Drawn0.step)⟩
  ·
   replace c7:=Bool.eq_false_iff.mpr c7;subst c7;have H1:(if a0 < a1 then (some (-1)) else (if a0 > a1 then (some 1) else (some 0)))=some r:=by rw [if_neg (show ¬ (false=true) by decide)] at H;exact H
   clear H;have H:=H1;clear H1
   by_cases c8:a0 < a1
   ·
    rw [if_pos c8] at H;have c8b0:decide (a0 < a1)=true:=decide_eq_true c8;clear c8;obtain rfl:=Option.some.inj H;go_enter Try.func74,Try.ntmps74;go_wp2_with (first|((with_reducible refine gate_callee (f:=79) rfl ?_);refine goesL_ (some 8) rfl rfl Try.func79 (by kernel_rfl) rfl #[.int .i64 a0] rfl (by (try simp only [List.map_toArray,List.map_cons,List.map_nil]);first|done|rfl|(simp only [List.length_drop,List.length_take];rfl)) ?_;(with_reducible refine (cmp_isNaN_int.calls a0 false _ A3.out).mono ?_);rintro e w' ⟨rfl,⟨nd,rfl⟩⟩;refine ⟨_,rfl,?_⟩)|((with_reducible refine gate_callee (f:=79) rfl ?_);refine goesL_ (some 10) rfl rfl Try.func79 (by kernel_rfl) rfl #[.int .i64 a1] rfl (by (try simp only [List.map_toArray,List.map_cons,List.map_nil]);first|done|rfl|(simp only [List.length_drop,List.length_take];rfl)) ?_;(with_reducible refine (cmp_isNaN_int.calls a1 false _ A4.out).mono ?_);rintro e w' ⟨rfl,⟨nd,rfl⟩⟩;refine ⟨_,rfl,?_⟩));go_ret;exact ⟨by first|rfl|(simp;done)|(simp [*];done),by repeat (first|exact Drawn0.refl _|apply Drawn0.step)⟩
   ·
    rw [if_neg c8] at H;have c8b0:decide (a0 < a1)=false:=decide_eq_false c8;clear c8
    by_cases c9:a0 > a1
    ·
     rw [if_pos c9] at H;have c9b0:decide (a1 < a0)=true:=decide_eq_true c9;clear c9;obtain rfl:=Option.some.inj H;go_enter Try.func74,Try.ntmps74;go_wp2_with (first|((with_reducible refine gate_callee (f:=79) rfl ?_);refine goesL_ (some 8) rfl rfl Try.func79 (by kernel_rfl) rfl #[.int .i64 a0] rfl (by (try simp only [List.map_toArray,List.map_cons,List.map_nil]);first|done|rfl|(simp only [List.length_drop,List.length_take];rfl)) ?_;(with_reducible refine (cmp_isNaN_int.calls a0 false _ A3.out).mono ?_);rintro e w' ⟨rfl,⟨nd,rfl⟩⟩;refine ⟨_,rfl,?_⟩)|((with_reducible refine gate_callee (f:=79) rfl ?_);refine goesL_ (some 10) rfl rfl Try.func79 (by kernel_rfl) rfl #[.int .i64 a1] rfl (by (try simp only [List.map_toArray,List.map_cons,List.map_nil]);first|done|rfl|(simp only [List.length_drop,List.length_take];rfl)) ?_;(with_reducible refine (cmp_isNaN_int.calls a1 false _ A4.out).mono ?_);rintro e w' ⟨rfl,⟨nd,rfl⟩⟩;refine ⟨_,rfl,?_⟩));go_ret;exact ⟨by first|rfl|(simp;done)|(simp [*];done),by repeat (first|exact Drawn0.refl _|apply Drawn0.step)⟩
    ·
     rw [if_neg c9] at H;have c9b0:decide (a1 < a0)=false:=decide_eq_false c9;clear c9;obtain rfl:=Option.some.inj H;go_enter Try.func74,Try.ntmps74;go_wp2_with (first|((with_reducible refine gate_callee (f:=79) rfl ?_);refine goesL_ (some 8) rfl rfl Try.func79 (by kernel_rfl) rfl #[.int .i64 a0] rfl (by (try simp only [List.map_toArray,List.map_cons,List.map_nil]);first|done|rfl|(simp only [List.length_drop,List.length_take];rfl)) ?_;(with_reducible refine (cmp_isNaN_int.calls a0 false _ A3.out).mono ?_);rintro e w' ⟨rfl,⟨nd,rfl⟩⟩;refine ⟨_,rfl,?_⟩)|((with_reducible refine gate_callee (f:=79) rfl ?_);refine goesL_ (some 10) rfl rfl Try.func79 (by kernel_rfl) rfl #[.int .i64 a1] rfl (by (try simp only [List.map_toArray,List.map_cons,List.map_nil]);first|done|rfl|(simp only [List.length_drop,List.length_take];rfl)) ?_;(with_reducible refine (cmp_isNaN_int.calls a1 false _ A4.out).mono ?_);rintro e w' ⟨rfl,⟨nd,rfl⟩⟩;refine ⟨_,rfl,?_⟩));go_ret;exact ⟨by first|rfl|(simp;done)|(simp [*];done),by repeat (first|exact Drawn0.refl _|apply Drawn0.step)⟩
/-! ### slices_Compare_int_int: function 55 -/
def slices_Compare_int_int.l0:Nat → List Int → List Int → List Int → Int → Int → Option (Int)
  | 0,_,_,_,_,_=>none
  | k + 1,x0,x1,x9,x10,x11=>if x11 < x10 then (if 0 ≤ x11 then (if x11 < (x9.length:Int) then (if x11 ≥ (x1.length:Int) then (some 1) else (if x11 < (x1.length:Int) then ((cmp_Compare_int.f (rd x9 x11) (rd x1 x11)).bind fun t139=>(if t139=0 then (slices_Compare_int_int.l0 k x0 x1 x9 x10 (wrap64 (x11 + 1))) else (some t139))) else (none))) else (none)) else (none)) else (if (x0.length:Int) < (x1.length:Int) then (some (-1)) else (some 0))
def slices_Compare_int_int.f (k:Nat) (l0:List Int) (l1:List Int):Option (Int):=slices_Compare_int_int.l0 k l0 l1 l0 (l0.length:Int) 0
theorem slices_Compare_int_int.mono_l:∀ k,(∀ y0 y1 y2 y3 y4,LeO (slices_Compare_int_int.l0 k y0 y1 y2 y3 y4) (slices_Compare_int_int.l0 (k + 1) y0 y1 y2 y3 y4))
  | 0=>fun _ _ _ _ _ r h=>by simp [slices_Compare_int_int.l0] at h
  | k + 1=>by
    have ih0:=slices_Compare_int_int.mono_l k
    · intro y0 y1 y2 y3 y4
      unfold slices_Compare_int_int.l0
      with_reducible repeat' first|exact ih0 _ _ _ _ _|exact LeO.refl _|exact LeO.none _|refine LeO.ite ?_ ?_|refine LeO.bind ?_ (fun _=>?_)
theorem slices_Compare_int_int.mono:∀ a0 a1 k,LeO (slices_Compare_int_int.f k a0 a1) (slices_Compare_int_int.f (k + 1) a0 a1):=by
  intro a0 a1 k
  have ih0:=slices_Compare_int_int.mono_l k
  unfold slices_Compare_int_int.f
  with_reducible repeat' first|exact ih0 _ _ _ _ _|exact LeO.refl _|exact LeO.none _|refine LeO.ite ?_ ?_|refine LeO.bind ?_ (fun _=>?_)
set_option maxHeartbeats 8000000 in
set_option maxRecDepth 100000 in
theorem slices_Compare_int_int.calls (k:Nat) (A0:Option Addr) (c0:Nat) (l0:List Int) (A1:Option Addr) (c1:Nat) (l1:List Int) (r:Int) (w:World) (hr0:Kd.C (Kd.int .i64) w A0 l0.length l0) (hc0:l0.length ≤ c0) (hr1:Kd.C (Kd.int .i64) w A1 l1.length l1) (hc1:l1.length ≤ c1) (h:slices_Compare_int_int.f k l0 l1=some r) :
    Calls Try.prog 55 #[.slice A0 l0.length c0,.slice A1 l1.length c1] w fun e w'=>e=.returned (.int .i64 r)∧Drawn0 w w':=by
 have HR0:=mk0 hr0;have HC0:=mk0 hc0;clear hr0 hc0;have HR1:=mk0 hr1;have HC1:=mk0 hc1;clear hr1 hc1;have H:(slices_Compare_int_int.l0 k l0 l1 l0 (l0.length:Int) 0)=some r:=h;clear h;have H':=mk0 H;clear H;go_enter Try.func55,Try.ntmps55;go_wp2
 go_loopg [11] k (fun kq v11 w'=>∃ (x11_1:Int),v11=.int .i64 x11_1∧Aside0 (slices_Compare_int_int.l0 kq l0 l1 l0 (l0.length:Int) x11_1=some r)∧Aside0 (kq ≤ k)∧Drawn0 w w')
 case atStart=>exact ⟨(0),(by first|rfl|(simp;done)|(simp [*];done)),H',⟨Nat.le_refl _⟩,by repeat (first|exact Drawn0.refl _|apply Drawn0.step)⟩
 case round =>
  clear H';try clear c1
  try clear p2
  obtain ⟨x11_1,rfl,HA,HK1,⟨m1,rfl⟩⟩:=hrel;cases gk with
  | zero=>exact absurd HA.out (by simp [slices_Compare_int_int.l0])
  | succ k1 =>
   have H:=HA.out;clear HA;simp only [slices_Compare_int_int.l0] at H
   by_cases c3:x11_1 < (l0.length:Int)
   ·
    rw [if_pos c3] at H;have c3b0:decide (x11_1 < (l0.length:Int))=true:=decide_eq_true c3;clear c3
    by_cases c4:0 ≤ x11_1
    ·
     rw [if_pos c4] at H;have c4b0:decide (0 ≤ x11_1)=true:=decide_eq_true c4;clear c4
     by_cases c5:x11_1 < (l0.length:Int)
     ·
      rw [if_pos c5] at H;have c5b0:decide (x11_1 < (l0.length:Int))=true:=decide_eq_true c5;clear c5
      by_cases c6:x11_1 ≥ (l1.length:Int)
      ·
       rw [if_pos c6] at H;have c6b0:decide ((l1.length:Int) ≤ x11_1)=true:=decide_eq_true c6;clear c6;obtain rfl:=Option.some.inj H;have p137:0 ≤ (x11_1:Int):=of_decide_eq_true (by first|(with_reducible assumption)|assumption);have q137:x11_1 < (l0.length:Int):=of_decide_eq_true (by first|(with_reducible assumption)|assumption);obtain ⟨ad137,e137,hx137_0⟩:=Kd.at_int HR0.out x11_1 p137 q137;cases e137;replace p137:=eq_true p137;replace q137:=eq_true q137;go_wp2;go_ret;exact ⟨by first|rfl|(simp;done)|(simp [*];done),by repeat (first|exact Drawn0.refl _|apply Drawn0.step)⟩
      ·
       rw [if_neg c6] at H;have c6b0:decide ((l1.length:Int) ≤ x11_1)=false:=decide_eq_false c6;clear c6
       by_cases c7:x11_1 < (l1.length:Int)
       ·
        rw [if_pos c7] at H;have c7b0:decide (x11_1 < (l1.length:Int))=true:=decide_eq_true c7;clear c7;replace H:=Option.bind_eq_some_iff.mp H;obtain ⟨t139,A80,H⟩:=H;(try dsimp only at H);have A8:=mk0 A80;clear A80
        by_cases c9:t139=0
        ·
         rw [if_pos c9] at H;have c9b0:(t139 == 0)=true:=beq_iff_eq.mpr c9;have c9b1:(t139 != 0)=false:=bne_eq_false_iff_eq.mpr c9;clear c9;have H':=mk0 H;clear H;have p137:0 ≤ (x11_1:Int):=of_decide_eq_true (by first|(with_reducible assumption)|assumption);have q137:x11_1 < (l0.length:Int):=of_decide_eq_true (by first|(with_reducible assumption)|assumption);obtain ⟨ad137,e137,hx137_0⟩:=Kd.at_int HR0.out x11_1 p137 q137;cases e137;replace p137:=eq_true p137;replace q137:=eq_true q137;have p138:0 ≤ (x11_1:Int):=of_decide_eq_true (by first|(with_reducible assumption)|assumption);have q138:x11_1 < (l1.length:Int):=of_decide_eq_true (by first|(with_reducible assumption)|assumption);obtain ⟨ad138,e138,hx138_0⟩:=Kd.at_int HR1.out x11_1 p138 q138;cases e138;replace p138:=eq_true p138;replace q138:=eq_true q138;go_wp2_with (first|((with_reducible refine gate_callee (f:=74) rfl ?_);refine goesL_ (some 26) rfl rfl Try.func74 (by kernel_rfl) rfl #[.int .i64 (rd l0 x11_1),.int .i64 (rd l1 x11_1)] rfl (by (try simp only [List.map_toArray,List.map_cons,List.map_nil]);first|done|rfl|(simp only [List.length_drop,List.length_take];rfl)) ?_;(with_reducible refine (cmp_Compare_int.calls (rd l0 x11_1) (rd l1 x11_1) t139 _ A8.out).mono ?_);rintro e w' ⟨rfl,⟨nd,rfl⟩⟩;refine ⟨_,rfl,?_⟩));go_roundg k1
         case measure=>have:=HK1.out;omega
         case rel=>exact ⟨(wrap64 (x11_1 + 1)),(by first|rfl|(simp;done)|(simp [*];done)),H',⟨by have:=HK1.out;omega⟩,by repeat (first|exact Drawn0.refl _|apply Drawn0.step)⟩
        ·
         rw [if_neg c9] at H;have c9b0:(t139 == 0)=false:=beq_eq_false_iff_ne.mpr c9;have c9b1:(t139 != 0)=true:=bne_iff_ne.mpr c9;obtain rfl:=Option.some.inj H;have p137:0 ≤ (x11_1:Int):=of_decide_eq_true (by first|(with_reducible assumption)|assumption);have q137:x11_1 < (l0.length:Int):=of_decide_eq_true (by first|(with_reducible assumption)|assumption);obtain ⟨ad137,e137,hx137_0⟩:=Kd.at_int HR0.out x11_1 p137 q137;cases e137;replace p137:=eq_true p137;replace q137:=eq_true q137;have p138:0 ≤ (x11_1:Int):=of_decide_eq_true (by first|(with_reducible assumption)|assumption);have q138:x11_1 < (l1.length:Int):=of_decide_eq_true (by first|(with_reducible assumption)|assumption);obtain ⟨ad138,e138,hx138_0⟩:=Kd.at_int HR1.out x11_1 p138 q138;cases e138;replace p138:=eq_true p138;replace q138:=eq_true q138;go_wp2_with (first|((with_reducible refine gate_callee (f:=74) rfl ?_);refine goesL_ (some 26) rfl rfl Try.func74 (by kernel_rfl) rfl #[.int .i64 (rd l0 x11_1),.int .i64 (rd l1 x11_1)] rfl (by (try simp only [List.map_toArray,List.map_cons,List.map_nil]);first|done|rfl|(simp only [List.length_drop,List.length_take];rfl)) ?_;(with_reducible refine (cmp_Compare_int.calls (rd l0 x11_1) (rd l1 x11_1) t139 _ A8.out).mono ?_);rintro e w' ⟨rfl,⟨nd,rfl⟩⟩;refine ⟨_,rfl,?_⟩));go_ret;exact ⟨by first|rfl|(simp;done)|(simp [*];done),by repeat (first|exact Drawn0.refl _|apply Drawn0.step)⟩
       ·
        rw [if_neg c7] at H;exact absurd H (by simp)
     ·
      rw [if_neg c5] at H;exact absurd H (by simp)
    ·
     rw [if_neg c4] at H;exact absurd H (by simp)
   ·
    rw [if_neg c3] at H;have c3b0:decide (x11_1 < (l0.length:Int))=false:=decide_eq_false c3;clear c3
    by_cases c10:(l0.length:Int) < (l1.length:Int)
    ·
     rw [if_pos c10] at H;have c10b0:decide ((l0.length:Int) < (l1.length:Int))=true:=decide_eq_true c10;have c10b1:decide (l0.length < l1.length)=true:=decide_eq_true (Int.ofNat_lt.mp c10);clear c10;obtain rfl:=Option.some.inj H;go_wp2;go_ret;exact ⟨by first|rfl|(simp;done)|(simp [*];done),by repeat (first|exact Drawn0.refl _|apply Drawn0.step)⟩
    ·
     rw [if_neg c10] at H;have c10b0:decide ((l0.length:Int) < (l1.length:Int))=false:=decide_eq_false c10;have c10b1:decide (l0.length < l1.length)=false:=decide_eq_false (fun h=>c10 (Int.ofNat_lt.mpr h));clear c10;obtain rfl:=Option.some.inj H;go_wp2;go_ret;exact ⟨by first|rfl|(simp;done)|(simp [*];done),by repeat (first|exact Drawn0.refl _|apply Drawn0.step)⟩
/-! ### norm_quat_conj: function 65 -/
def norm_quat_conj.f (a0_0:Int) (a0_1:Int) (a0_2:Int) (a0_3:Int):Option (Int × Int × Int × Int):=some (a0_0,wrap64 (-a0_1),wrap64 (-a0_2),wrap64 (-a0_3))
set_option maxHeartbeats 8000000 in
set_option maxRecDepth 100000 in
theorem norm_quat_conj.calls (a0_0:Int) (a0_1:Int) (a0_2:Int) (a0_3:Int) (r1:Int) (r2:Int) (r3:Int) (r4:Int) (w:World) (h:norm_quat_conj.f a0_0 a0_1 a0_2 a0_3=some (r1,r2,r3,r4)) :
    Calls Try.prog 65 #[.agg #[.int .i64 a0_0,.int .i64 a0_1,.int .i64 a0_2,.int .i64 a0_3]] w fun e w'=>e=.returned (.agg #[.int .i64 r1,.int .i64 r2,.int .i64 r3,.int .i64 r4])∧Below w.heap.size w w':=by
 have hu67:=Try.underlying67;have HB:=mk0 (Below.refl w.heap.size w);have H:(some (a0_0,wrap64 (-a0_1),wrap64 (-a0_2),wrap64 (-a0_3)))=some (r1,r2,r3,r4):=h;clear h;simp only [Option.some.injEq,Prod.mk.injEq] at H;obtain ⟨rfl,rfl,rfl,rfl⟩:=H;go_enter Try.func65,Try.ntmps65;go_wp2_with (first|((with_reducible refine gate_dst (N:=1) rfl ?_);refine box_event ?hg (N:=1) ?hd (cs:=#[.int .i64 a0_0,.int .i64 a0_1,.int .i64 a0_2,.int .i64 a0_3]) (t:=67) ?hr ?_;(case hd=>rfl);(case hg=>rfl);(case hr=>first|(go_simp;done)|(go_simp;rfl));intro gb140 hg w2 hbox hb;have BK140:=mk0 (hbox);have GW140:=szw hg HB;have GE140:=GW140;replace HB:=bst HB hb;clear hb hbox hg)|((with_reducible refine gate_dst (N:=2) rfl ?_);refine box_event ?hg (N:=2) ?hd (cs:=#[.int .i64 0,.int .i64 0,.int .i64 0,.int .i64 0]) (t:=67) ?hr ?_;(case hd=>rfl);(case hg=>rfl);(case hr=>first|(go_simp;done)|(go_simp;rfl));intro gb141 hg w3 hbox hb;have BK141:=mk0 (hbox);have GW141:=szw hg HB;have GE141:=GW141;have NB140_141:=nlt hg BK140;have NB141_140:=ngt hg BK140;replace BK140:=bkb BK140 hb;replace HB:=bst HB hb;clear hb hbox hg;have hnb4:=NB140_141.out;have hnc4:=NB141_140.out;have hcz5_0:w3.cell? ⟨gb140,0,none⟩=some (.int .i64 a0_0):=(blk_cell BK140.out 0).trans rfl;have hcz5_1:w3.cell? ⟨gb140,1,none⟩=some (.int .i64 a0_1):=(blk_cell BK140.out 1).trans rfl;have hcz5_2:w3.cell? ⟨gb140,2,none⟩=some (.int .i64 a0_2):=(blk_cell BK140.out 2).trans rfl;have hcz5_3:w3.cell? ⟨gb140,3,none⟩=some (.int .i64 a0_3):=(blk_cell BK140.out 3).trans rfl;have hfz5_0:=blk_frozen BK140.out 0;have hfz5_1:=blk_frozen BK140.out 1;have hfz5_2:=blk_frozen BK140.out 2;have hfz5_3:=blk_frozen BK140.out 3;have hcz6_0:w3.cell? ⟨gb141,0,none⟩=some (.int .i64 0):=(blk_cell BK141.out 0).trans rfl;have hcz6_1:w3.cell? ⟨gb141,1,none⟩=some (.int .i64 0):=(blk_cell BK141.out 1).trans rfl;have hcz6_2:w3.cell? ⟨gb141,2,none⟩=some (.int .i64 0):=(blk_cell BK141.out 2).trans rfl;have hcz6_3:w3.cell? ⟨gb141,3,none⟩=some (.int .i64 0):=(blk_cell BK141.out 3).trans rfl;have hfz6_0:=blk_frozen BK141.out 0;have hfz6_1:=blk_frozen BK141.out 1;have hfz6_2:=blk_frozen BK141.out 2;have hfz6_3:=blk_frozen BK141.out 3));refine bodyPost_ret (results_cell_row rfl _ _ gb141 67 #[.int .i64 a0_0,.int .i64 (wrap64 (-a0_1)),.int .i64 (wrap64 (-a0_2)),.int .i64 (wrap64 (-a0_3))] (0,0) _ rfl (by refine blk_put (cs:=#[.int .i64 a0_0,.int .i64 (wrap64 (-a0_1)),.int .i64 (wrap64 (-a0_2)),.int .i64 0]) ?_ 3 _ rfl;refine blk_put (cs:=#[.int .i64 a0_0,.int .i64 (wrap64 (-a0_1)),.int .i64 0,.int .i64 0]) ?_ 2 _ rfl;refine blk_put (cs:=#[.int .i64 a0_0,.int .i64 0,.int .i64 0,.int .i64 0]) ?_ 1 _ rfl;refine blk_put (cs:=#[.int .i64 0,.int .i64 0,.int .i64 0,.int .i64 0]) ?_ 0 _ rfl;exact BK141.out) Try.underlying67 rfl (by kernel_rfl)) rfl ?_;exact ⟨by first|rfl|(simp [errW_none,errW_some] <;> rfl)|(simp [*,errW_none,errW_some] <;> rfl),by repeat (first|(with_reducible first|exact HB.out|apply below_alloc|apply pw_below_drewN|apply below_drew1|refine below_set ?_ GE140.out|refine below_set ?_ GE141.out)|exact HB.out)⟩
/-! ### norm_quat_norm: function 66 -/
def norm_quat_norm.f (a0_0:Int) (a0_1:Int) (a0_2:Int) (a0_3:Int):Option (Int):=some (wrap64 (Int.tdiv (wrap64 ((wrap64 ((wrap64 ((wrap64 (a0_0 * a0_0)) + (wrap64 (a0_1 * a0_1)))) + (wrap64 (a0_2 * a0_2)))) + (wrap64 (a0_3 * a0_3)))) 4))
set_option maxHeartbeats 8000000 in
set_option maxRecDepth 100000 in
theorem norm_quat_norm.calls (a0_0:Int) (a0_1:Int) (a0_2:Int) (a0_3:Int) (r:Int) (w:World) (h:norm_quat_norm.f a0_0 a0_1 a0_2 a0_3=some r) :
    Calls Try.prog 66 #[.agg #[.int .i64 a0_0,.int .i64 a0_1,.int .i64 a0_2,.int .i64 a0_3]] w fun e w'=>e=.returned (.int .i64 r)∧Below w.heap.size w w':=by
 have hu67:=Try.underlying67;have HB:=mk0 (Below.refl w.heap.size w);have H:(some (wrap64 (Int.tdiv (wrap64 ((wrap64 ((wrap64 ((wrap64 (a0_0 * a0_0)) + (wrap64 (a0_1 * a0_1)))) + (wrap64 (a0_2 * a0_2)))) + (wrap64 (a0_3 * a0_3)))) 4)))=some r:=h;clear h;obtain rfl:=Option.some.inj H;go_enter Try.func66,Try.ntmps66;go_wp2_with (first|((with_reducible refine gate_dst (N:=1) rfl ?_);refine box_event ?hg (N:=1) ?hd (cs:=#[.int .i64 a0_0,.int .i64 a0_1,.int .i64 a0_2,.int .i64 a0_3]) (t:=67) ?hr ?_;(case hd=>rfl);(case hg=>rfl);(case hr=>first|(go_simp;done)|(go_simp;rfl));intro gb142 hg w2 hbox hb;have BK142:=mk0 (hbox);have GW142:=szw hg HB;have GE142:=GW142;replace HB:=bst HB hb;clear hb hbox hg;have hcz3_0:w2.cell? ⟨gb142,0,none⟩=some (.int .i64 a0_0):=(blk_cell BK142.out 0).trans rfl;have hcz3_1:w2.cell? ⟨gb142,1,none⟩=some (.int .i64 a0_1):=(blk_cell BK142.out 1).trans rfl;have hcz3_2:w2.cell? ⟨gb142,2,none⟩=some (.int .i64 a0_2):=(blk_cell BK142.out 2).trans rfl;have hcz3_3:w2.cell? ⟨gb142,3,none⟩=some (.int .i64 a0_3):=(blk_cell BK142.out 3).trans rfl;have hfz3_0:=blk_frozen BK142.out 0;have hfz3_1:=blk_frozen BK142.out 1;have hfz3_2:=blk_frozen BK142.out 2;have hfz3_3:=blk_frozen BK142.out 3));go_ret;exact ⟨by first|rfl|(simp [errW_none,errW_some] <;> rfl)|(simp [*,errW_none,errW_some] <;> rfl),by repeat (first|(with_reducible first|exact HB.out|apply below_alloc|apply pw_below_drewN|apply below_drew1|refine below_set ?_ GE142.out)|exact HB.out)⟩
/-! ### norm_floor: function 78 -/
def norm_floor.f (a0:Int) (a1:Int):Option (Int):=if a1=0 then (none) else (if (Int.tmod a0 a1)=0 then (some (wrap64 (Int.tdiv a0 a1))) else (if a0 < 0 then (some (wrap64 ((wrap64 (Int.tdiv a0 a1)) - 1))) else (some (wrap64 (Int.tdiv a0 a1)))))
set_option maxHeartbeats 8000000 in
set_option maxRecDepth 100000 in
theorem norm_floor.calls (a0:Int) (a1:Int) (r:Int) (w:World) (h:norm_floor.f a0 a1=some r) :
    Calls Try.prog 78 #[.int .i64 a0,.int .i64 a1] w fun e w'=>e=.returned (.int .i64 r)∧Drawn0 w w':=by
 have H:(if a1=0 then (none) else (if (Int.tmod a0 a1)=0 then (some (wrap64 (Int.tdiv a0 a1))) else (if a0 < 0 then (some (wrap64 ((wrap64 (Int.tdiv a0 a1)) - 1))) else (some (wrap64 (Int.tdiv a0 a1))))))=some r:=h;clear h
 by_cases c3:a1=0
 ·
  rw [if_pos c3] at H;exact absurd H (by simp)
 ·
  rw [if_neg c3] at H;have c3b0:(a1 == 0)=false:=beq_eq_false_iff_ne.mpr c3;have c3b1:(a1 != 0)=true:=bne_iff_ne.mpr c3
  by_cases c4:(Int.tmod a0 a1)=0
  ·
   rw [if_pos c4] at H;have c4b0:((Int.tmod a0 a1) == 0)=true:=beq_iff_eq.mpr c4;have c4b1:((Int.tmod a0 a1) != 0)=false:=bne_eq_false_iff_eq.mpr c4;clear c4;obtain rfl:=Option.some.inj H;go_enter Try.func78,Try.ntmps78;go_wp2;go_ret;exact ⟨by first|rfl|(simp;done)|(simp [*];done),by repeat (first|exact Drawn0.refl _|apply Drawn0.step)⟩
  ·
   rw [if_neg c4] at H;have c4b0:((Int.tmod a0 a1) == 0)=false:=beq_eq_false_iff_ne.mpr c4;have c4b1:((Int.tmod a0 a1) != 0)=true:=bne_iff_ne.mpr c4
   by_cases c5:a0 < 0
   ·
    rw [if_pos c5] at H;have c5b0:decide (a0 < 0)=true:=decide_eq_true c5;clear c5;obtain rfl:=Option.some.inj H;go_enter Try.func78,Try.ntmps78;go_wp2;go_ret;exact ⟨by first|rfl|(simp;done)|(simp [*];done),by repeat (first|exact Drawn0.refl _|apply Drawn0.step)⟩
   ·
    rw [if_neg c5] at H;have c5b0:decide (a0 < 0)=false:=decide_eq_false c5;clear c5;obtain rfl:=Option.some.inj H;go_enter Try.func78,Try.ntmps78;go_wp2;go_ret;exact ⟨by first|rfl|(simp;done)|(simp [*];done),by repeat (first|exact Drawn0.refl _|apply Drawn0.step)⟩
/-! ### norm_nearest: function 72 -/
def norm_nearest.f (a0:Int) (a1:Int) (a2:Int):Option (Int):=(norm_floor.f a0 a1).bind fun t143=>(if (Go.bits .and .i64 t143 1)=a2 then (if (wrap64 (a0 - (wrap64 (t143 * a1)))) > (wrap64 ((wrap64 ((wrap64 (t143 + 2)) * a1)) - a0)) then (some (wrap64 (t143 + 2))) else (some t143)) else (if (wrap64 (a0 - (wrap64 ((wrap64 (t143 - 1)) * a1)))) > (wrap64 ((wrap64 ((wrap64 ((wrap64 (t143 - 1)) + 2)) * a1)) - a0)) then (some (wrap64 ((wrap64 (t143 - 1)) + 2))) else (some (wrap64 (t143 - 1)))))
set_option maxHeartbeats 8000000 in
set_option maxRecDepth 100000 in
theorem norm_nearest.calls (a0:Int) (a1:Int) (a2:Int) (r:Int) (w:World) (h:norm_nearest.f a0 a1 a2=some r) :
    Calls Try.prog 72 #[.int .i64 a0,.int .i64 a1,.int .i64 a2] w fun e w'=>e=.returned (.int .i64 r)∧Drawn0 w w':=by
 have H:((norm_floor.f a0 a1).bind fun t143=>(if (Go.bits .and .i64 t143 1)=a2 then (if (wrap64 (a0 - (wrap64 (t143 * a1)))) > (wrap64 ((wrap64 ((wrap64 (t143 + 2)) * a1)) - a0)) then (some (wrap64 (t143 + 2))) else (some t143)) else (if (wrap64 (a0 - (wrap64 ((wrap64 (t143 - 1)) * a1)))) > (wrap64 ((wrap64 ((wrap64 ((wrap64 (t143 - 1)) + 2)) * a1)) - a0)) then (some (wrap64 ((wrap64 (t143 - 1)) + 2))) else (some (wrap64 (t143 - 1))))))=some r:=h;clear h;replace H:=Option.bind_eq_some_iff.mp H;obtain ⟨t143,A40,H⟩:=H;(try dsimp only at H);have A4:=mk0 A40;clear A40
 by_cases c5:(Go.bits .and .i64 t143 1)=a2
 ·
  rw [if_pos c5] at H;have c5b0:((Go.bits .and .i64 t143 1) == a2)=true:=beq_iff_eq.mpr c5;have c5b1:((Go.bits .and .i64 t143 1) != a2)=false:=bne_eq_false_iff_eq.mpr c5;clear c5
  by_cases c6:(wrap64 (a0 - (wrap64 (t143 * a1)))) > (wrap64 ((wrap64 ((wrap64 (t143 + 2)) * a1)) - a0))
  ·
   rw [if_pos c6] at H;have c6b0:decide ((wrap64 ((wrap64 ((wrap64 (t143 + 2)) * a1)) - a0)) < (wrap64 (a0 - (wrap64 (t143 * a1)))))=true:=decide_eq_true c6;clear c6;obtain rfl:=Option.some.inj H;go_enter Try.func72,Try.ntmps72;go_wp2_with (first|((with_reducible refine gate_callee (f:=78) rfl ?_);refine goesL_ (some 10) rfl rfl Try.func78 (by kernel_rfl) rfl #[.int .i64 a0,.int .i64 a1] rfl (by (try simp only [List.map_toArray,List.map_cons,List.map_nil]);first|done|rfl|(simp only [List.length_drop,List.length_take];rfl)) ?_;(with_reducible refine (norm_floor.calls a0 a1 t143 _ A4.out).mono ?_);rintro e w' ⟨rfl,⟨nd,rfl⟩⟩;refine ⟨_,rfl,?_⟩));go_ret;exact ⟨by first|rfl|(simp;done)|(simp [*];done),by repeat (first|exact Drawn0.refl _|apply Drawn0.step)⟩
  ·
   rw [if_neg c6] at H;have c6b0:decide ((wrap64 ((wrap64 ((wrap64 (t143 + 2)) * a1)) - a0)) < (wrap64 (a0 - (wrap64 (t143 * a1)))))=false:=decide_eq_false c6;clear c6;obtain rfl:=Option.some.inj H;go_enter Try.func72,Try.ntmps72;go_wp2_with (first|((with_reducible refine gate_callee (f:=78) rfl ?_);refine goesL_ (some 10) rfl rfl Try.func78 (by kernel_rfl) rfl #[.int .i64 a0,.int .i64 a1] rfl (by (try simp only [List.map_toArray,List.map_cons,List.map_nil]);first|done|rfl|(simp only [List.length_drop,List.length_take];rfl)) ?_;(with_reducible refine (norm_floor.calls a0 a1 t143 _ A4.out).mono ?_);rintro e w' ⟨rfl,⟨nd,rfl⟩⟩;refine ⟨_,rfl,?_⟩));go_ret;exact ⟨by first|rfl|(simp;done)|(simp [*];done),by repeat (first|exact Drawn0.refl _|apply Drawn0.step)⟩
 ·
  rw [if_neg c5] at H;have c5b0:((Go.bits .and .i64 t143 1) == a2)=false:=beq_eq_false_iff_ne.mpr c5;have c5b1:((Go.bits .and .i64 t143 1) != a2)=true:=bne_iff_ne.mpr c5
  by_cases c7:(wrap64 (a0 - (wrap64 ((wrap64 (t143 - 1)) * a1)))) > (wrap64 ((wrap64 ((wrap64 ((wrap64 (t143 - 1)) + 2)) * a1)) - a0))
  ·
   rw [if_pos c7] at H;have c7b0:decide ((wrap64 ((wrap64 ((wrap64 ((wrap64 (t143 - 1)) + 2)) * a1)) - a0)) < (wrap64 (a0 - (wrap64 ((wrap64 (t143 - 1)) * a1)))))=true:=decide_eq_true c7;clear c7;obtain rfl:=Option.some.inj H;go_enter Try.func72,Try.ntmps72;go_wp2_with (first|((with_reducible refine gate_callee (f:=78) rfl ?_);refine goesL_ (some 10) rfl rfl Try.func78 (by kernel_rfl) rfl #[.int .i64 a0,.int .i64 a1] rfl (by (try simp only [List.map_toArray,List.map_cons,List.map_nil]);first|done|rfl|(simp only [List.length_drop,List.length_take];rfl)) ?_;(with_reducible refine (norm_floor.calls a0 a1 t143 _ A4.out).mono ?_);rintro e w' ⟨rfl,⟨nd,rfl⟩⟩;refine ⟨_,rfl,?_⟩));go_ret;exact ⟨by first|rfl|(simp;done)|(simp [*];done),by repeat (first|exact Drawn0.refl _|apply Drawn0.step)⟩
  ·
   rw [if_neg c7] at H;have c7b0:decide ((wrap64 ((wrap64 ((wrap64 ((wrap64 (t143 - 1)) + 2)) * a1)) - a0)) < (wrap64 (a0 - (wrap64 ((wrap64 (t143 - 1)) * a1)))))=false:=decide_eq_false c7;clear c7;obtain rfl:=Option.some.inj H;go_enter Try.func72,Try.ntmps72;go_wp2_with (first|((with_reducible refine gate_callee (f:=78) rfl ?_);refine goesL_ (some 10) rfl rfl Try.func78 (by kernel_rfl) rfl #[.int .i64 a0,.int .i64 a1] rfl (by (try simp only [List.map_toArray,List.map_cons,List.map_nil]);first|done|rfl|(simp only [List.length_drop,List.length_take];rfl)) ?_;(with_reducible refine (norm_floor.calls a0 a1 t143 _ A4.out).mono ?_);rintro e w' ⟨rfl,⟨nd,rfl⟩⟩;refine ⟨_,rfl,?_⟩));go_ret;exact ⟨by first|rfl|(simp;done)|(simp [*];done),by repeat (first|exact Drawn0.refl _|apply Drawn0.step)⟩
/-! ### norm_quat_minus: function 73 -/
def norm_quat_minus.l0:Nat → Int → Int → Int → Int → Int → Int → Int → Int → Int → Option (Int × Int × Int × Int)
  | 0,_,_,_,_,_,_,_,_,_=>none
  | k + 1,x6,x145000,x145001,x145002,x145003,x146000,x146001,x146002,x146003=>if x6 < 4 then (if x6=0 then (norm_quat_minus.l0 k 1 (wrap64 (x145000 - x146000)) x145001 x145002 x145003 x146000 x146001 x146002 x146003) else (if x6=1 then (norm_quat_minus.l0 k 2 x145000 (wrap64 (x145001 - x146001)) x145002 x145003 x146000 x146001 x146002 x146003) else (if x6=2 then (norm_quat_minus.l0 k 3 x145000 x145001 (wrap64 (x145002 - x146002)) x145003 x146000 x146001 x146002 x146003) else (if x6=3 then (norm_quat_minus.l0 k 4 x145000 x145001 x145002 (wrap64 (x145003 - x146003)) x146000 x146001 x146002 x146003) else (none))))) else (some (x145000,x145001,x145002,x145003))
def norm_quat_minus.f (k:Nat) (a0_0:Int) (a0_1:Int) (a0_2:Int) (a0_3:Int) (a1_0:Int) (a1_1:Int) (a1_2:Int) (a1_3:Int):Option (Int × Int × Int × Int):=norm_quat_minus.l0 k 0 a0_0 a0_1 a0_2 a0_3 a1_0 a1_1 a1_2 a1_3
theorem norm_quat_minus.mono_l:∀ k,(∀ y0 y1 y2 y3 y4 y5 y6 y7 y8,LeO (norm_quat_minus.l0 k y0 y1 y2 y3 y4 y5 y6 y7 y8) (norm_quat_minus.l0 (k + 1) y0 y1 y2 y3 y4 y5 y6 y7 y8))
  | 0=>fun _ _ _ _ _ _ _ _ _ r h=>by simp [norm_quat_minus.l0] at h
  | k + 1=>by
    have ih0:=norm_quat_minus.mono_l k
    · intro y0 y1 y2 y3 y4 y5 y6 y7 y8
      unfold norm_quat_minus.l0
      with_reducible repeat' first|exact ih0 _ _ _ _ _ _ _ _ _|exact LeO.refl _|exact LeO.none _|refine LeO.ite ?_ ?_|refine LeO.bind ?_ (fun _=>?_)
theorem norm_quat_minus.mono:∀ a0 a1 a2 a3 a4 a5 a6 a7 k,LeO (norm_quat_minus.f k a0 a1 a2 a3 a4 a5 a6 a7) (norm_quat_minus.f (k + 1) a0 a1 a2 a3 a4 a5 a6 a7):=by
  intro a0 a1 a2 a3 a4 a5 a6 a7 k
  have ih0:=norm_quat_minus.mono_l k
  unfold norm_quat_minus.f
  with_reducible repeat' first|exact ih0 _ _ _ _ _ _ _ _ _|exact LeO.refl _|exact LeO.none _|refine LeO.ite ?_ ?_|refine LeO.bind ?_ (fun _=>?_)
def norm_quat_minus.T4:Bool × List (List Nat × List Nat):=(true,[([],[]),([0],[0]),([1],[1]),([],[]),([3],[3]),([4],[4]),([2,5],[2,5]),([0,0,1,2,3,4,5,6],[0]),([7,6,0,1,2,3,4,5,6],[6,7])])
def norm_quat_minus.B4:List Nat:=[0,1,3,0,8,24,63,127,255]
theorem norm_quat_minus.tab4:rtab .any (opsOf Try.f73 4)=norm_quat_minus.T4:=by kernel_rfl
theorem norm_quat_minus.bits4:waitsOk norm_quat_minus.T4.2 norm_quat_minus.B4=true:=by kernel_rfl
set_option maxHeartbeats 8000000 in
set_option maxRecDepth 100000 in
theorem norm_quat_minus.calls (k:Nat) (a0_0:Int) (a0_1:Int) (a0_2:Int) (a0_3:Int) (a1_0:Int) (a1_1:Int) (a1_2:Int) (a1_3:Int) (r1:Int) (r2:Int) (r3:Int) (r4:Int) (w:World) (h:norm_quat_minus.f k a0_0 a0_1 a0_2 a0_3 a1_0 a1_1 a1_2 a1_3=some (r1,r2,r3,r4)) :
    Calls Try.prog 73 #[.agg #[.int .i64 a0_0,.int .i64 a0_1,.int .i64 a0_2,.int .i64 a0_3],.agg #[.int .i64 a1_0,.int .i64 a1_1,.int .i64 a1_2,.int .i64 a1_3]] w fun e w'=>e=.returned (.agg #[.int .i64 r1,.int .i64 r2,.int .i64 r3,.int .i64 r4])∧Below w.heap.size w w':=by
 have hu67:=Try.underlying67;have HB:=mk0 (Below.refl w.heap.size w);have H:(norm_quat_minus.l0 k 0 a0_0 a0_1 a0_2 a0_3 a1_0 a1_1 a1_2 a1_3)=some (r1,r2,r3,r4):=h;clear h;have H':=mk0 H;clear H;go_enter Try.func73,Try.ntmps73;go_wp2_with (first|((with_reducible refine gate_dst (N:=2) rfl ?_);refine box_event ?hg (N:=2) ?hd (cs:=#[.int .i64 a0_0,.int .i64 a0_1,.int .i64 a0_2,.int .i64 a0_3]) (t:=67) ?hr ?_;(case hd=>rfl);(case hg=>rfl);(case hr=>first|(go_simp;done)|(go_simp;rfl));intro gb144 hg w3 hbox hb;have BK144:=mk0 (hbox);have GW144:=szw hg HB;have GE144:=GW144;replace HB:=bst HB hb;clear hb hbox hg)|((with_reducible refine gate_dst (N:=3) rfl ?_);refine box_event ?hg (N:=3) ?hd (cs:=#[.int .i64 a1_0,.int .i64 a1_1,.int .i64 a1_2,.int .i64 a1_3]) (t:=67) ?hr ?_;(case hd=>rfl);(case hg=>rfl);(case hr=>first|(go_simp;done)|(go_simp;rfl));intro gb145 hg w4 hbox hb;have BK145:=mk0 (hbox);have GW145:=szw hg HB;have GE145:=GW145;have NB144_145:=nlt hg BK144;have NB145_144:=ngt hg BK144;replace BK144:=bkb BK144 hb;replace HB:=bst HB hb;clear hb hbox hg)|((with_reducible refine gate_dst (N:=4) rfl ?_);refine box_event ?hg (N:=4) ?hd (cs:=#[.int .i64 0,.int .i64 0,.int .i64 0,.int .i64 0]) (t:=67) ?hr ?_;(case hd=>rfl);(case hg=>rfl);(case hr=>first|(go_simp;done)|(go_simp;rfl));intro gb146 hg w5 hbox hb;have BK146:=mk0 (hbox);have GW146:=szw hg HB;have GE146:=GW146;have NB144_146:=nlt hg BK144;have NB146_144:=ngt hg BK144;have NB145_146:=nlt hg BK145;have NB146_145:=ngt hg BK145;replace BK144:=bkb BK144 hb;replace BK145:=bkb BK145 hb;replace HB:=bst HB hb;clear hb hbox hg));(try simp only [Act.put,List.setIfInBounds_toArray,List.set_cons_zero,List.set_cons_succ])
 go_loopg [6] k (fun kq v6 w'=>∃ (x6_1:Int) (x145000_1:Int) (x145001_1:Int) (x145002_1:Int) (x145003_1:Int),v6=.int .i64 x6_1∧Aside0 (norm_quat_minus.l0 kq x6_1 x145000_1 x145001_1 x145002_1 x145003_1 a1_0 a1_1 a1_2 a1_3=some (r1,r2,r3,r4))∧Aside0 (kq ≤ k)∧Aside0 (w'.heap[gb144]?=some (.cells #[.int .i64 x145000_1,.int .i64 x145001_1,.int .i64 x145002_1,.int .i64 x145003_1] 67 (0,0)))∧Aside0 (w'.heap[gb145]?=some (.cells #[.int .i64 a1_0,.int .i64 a1_1,.int .i64 a1_2,.int .i64 a1_3] 67 (0,0)))∧Aside0 (w'.heap[gb146]?=some (.cells #[.int .i64 0,.int .i64 0,.int .i64 0,.int .i64 0] 67 (0,0)))∧Aside0 (Below w.heap.size w w'))
 case atStart=>exact ⟨(0),(a0_0),(a0_1),(a0_2),(a0_3),(by first|rfl|(simp;done)|(simp [*];done)),H',⟨Nat.le_refl _⟩,⟨by exact BK144.out⟩,⟨by exact BK145.out⟩,⟨by exact BK146.out⟩,⟨by repeat (first|(with_reducible first|exact HB.out|apply below_alloc|apply pw_below_drewN|apply below_drew1|refine below_set ?_ GE144.out|refine below_set ?_ GE145.out|refine below_set ?_ GE146.out)|exact HB.out)⟩⟩
 case round =>
  clear H';try clear p2
  obtain ⟨x6_1,x145000_1,x145001_1,x145002_1,x145003_1,rfl,HA,HK1,BK144,BK145,BK146,HB⟩:=hrel;cases gk with
  | zero=>exact absurd HA.out (by simp [norm_quat_minus.l0])
  | succ k1 =>
   have H:=HA.out;clear HA;simp only [norm_quat_minus.l0] at H
   by_cases c6:x6_1 < 4
   ·
    rw [if_pos c6] at H;have c6b0:decide (x6_1 < 4)=true:=decide_eq_true c6;clear c6
    by_cases c7:x6_1=0
    ·
     subst c7;have H1:(norm_quat_minus.l0 k1 1 (wrap64 (x145000_1 - a1_0)) x145001_1 x145002_1 x145003_1 a1_0 a1_1 a1_2 a1_3)=some (r1,r2,r3,r4):=by (try rw [if_pos rfl] at H);first|exact H|simpa using H
     clear H;have H:=H1;clear H1;have H':=mk0 H;clear H;try go_wp2
     replace BK144:=bdr BK144;replace BK145:=bdr BK145;replace BK146:=bdr BK146;replace HB:=hdr HB;refine start_ (n:=9) (S:=fun w'=>w'.cell? ⟨gb144,0,none⟩=some (.int .i64 x145000_1)∧w'.cell? ⟨gb144,1,none⟩=some (.int .i64 x145001_1)∧w'.cell? ⟨gb144,2,none⟩=some (.int .i64 x145002_1)∧w'.cell? ⟨gb144,3,none⟩=some (.int .i64 x145003_1)∧w'.cell? ⟨gb145,0,none⟩=some (.int .i64 a1_0)∧w'.cell? ⟨gb145,1,none⟩=some (.int .i64 a1_1)∧w'.cell? ⟨gb145,2,none⟩=some (.int .i64 a1_2)∧w'.cell? ⟨gb145,3,none⟩=some (.int .i64 a1_3)) (ds:=[8]) #[false,false,false,false,false,false,false,false,false] (by kernel_rfl) rfl rfl ⟨(blk_cell BK144.out 0).trans rfl,(blk_cell BK144.out 1).trans rfl,(blk_cell BK144.out 2).trans rfl,(blk_cell BK144.out 3).trans rfl,(blk_cell BK145.out 0).trans rfl,(blk_cell BK145.out 1).trans rfl,(blk_cell BK145.out 2).trans rfl,(blk_cell BK145.out 3).trans rfl⟩ (fun hHeld=>?_);refine with_tabW norm_quat_minus.tab4 norm_quat_minus.bits4 (fun HT_ HW_=>?_);generalize wr.drew=w8 at BK144 BK145 BK146 HB hHeld ⊢;refine pure_ (i:=0) (N:=some 9) (v:=?_) (a':=?_) #[true,false,false,false,false,false,false,false,false] rfl rfl (any_of HT_.out (by kernel_rfl)) (fun _ _ _ h=>h) (Or.inl ⟨by rfl,?_⟩) ?_ ?_;rotate_left
     ·
      intro w';go_simp;with_reducible rfl
     rotate_left
     ·
      simp only [Act.put,List.setIfInBounds_toArray,List.set_cons_zero,List.set_cons_succ,i64_w,i32_w];rfl
     refine pure_ (i:=1) (N:=some 10) (v:=?_) (a':=?_) #[true,true,false,false,false,false,false,false,false] rfl rfl (any_of HT_.out (by kernel_rfl)) (fun _ _ _ h=>h) (Or.inl ⟨by rfl,?_⟩) ?_ ?_;rotate_left
     ·
      intro w';go_simp;with_reducible rfl
     rotate_left
     ·
      simp only [Act.put,List.setIfInBounds_toArray,List.set_cons_zero,List.set_cons_succ,i64_w,i32_w];rfl
     refine pure_ (i:=3) (N:=some 12) (v:=?_) (a':=?_) #[true,true,false,true,false,false,false,false,false] rfl rfl (any_of HT_.out (by kernel_rfl)) (fun _ _ _ h=>h) (Or.inl ⟨by rfl,?_⟩) ?_ ?_;rotate_left
     ·
      intro w';go_simp;with_reducible rfl
     rotate_left
     ·
      simp only [Act.put,List.setIfInBounds_toArray,List.set_cons_zero,List.set_cons_succ,i64_w,i32_w];rfl
     refine pure_ (i:=4) (N:=some 13) (v:=?_) (a':=?_) #[true,true,false,true,true,false,false,false,false] rfl rfl (any_of HT_.out (by kernel_rfl)) (fun _ _ _ h=>h) (Or.inl ⟨by rfl,?_⟩) ?_ ?_;rotate_left
     ·
      intro w';go_simp;with_reducible rfl
     rotate_left
     ·
      simp only [Act.put,List.setIfInBounds_toArray,List.set_cons_zero,List.set_cons_succ,i64_w,i32_w];rfl
     refine take_ (i:=2) (N:=some 11) (v:=?_) (a':=?_) #[true,true,true,true,true,false,false,false,false] rfl rfl (take_ofW HT_.out HW_.out (by kernel_rfl)) (fun _ _ _ h=>h) (Or.inl ⟨by rfl,?_⟩) hHeld ?_ ?_;rotate_left
     ·
      rintro w' ⟨s0,s1,s2,s3,s4,s5,s6,s7⟩;go_simp;with_reducible rfl
     rotate_left
     ·
      simp only [Act.put,List.setIfInBounds_toArray,List.set_cons_zero,List.set_cons_succ,i64_w,i32_w];rfl
     refine take_ (i:=5) (N:=some 14) (v:=?_) (a':=?_) #[true,true,true,true,true,true,false,false,false] rfl rfl (take_ofW HT_.out HW_.out (by kernel_rfl)) (fun _ _ _ h=>h) (Or.inl ⟨by rfl,?_⟩) hHeld ?_ ?_;rotate_left
     ·
      rintro w' ⟨s0,s1,s2,s3,s4,s5,s6,s7⟩;go_simp;with_reducible rfl
     rotate_left
     ·
      simp only [Act.put,List.setIfInBounds_toArray,List.set_cons_zero,List.set_cons_succ,i64_w,i32_w];rfl
     refine pure_ (i:=6) (N:=some 15) (v:=?_) (a':=?_) #[true,true,true,true,true,true,true,false,false] rfl rfl (any_of HT_.out (by kernel_rfl)) (fun _ _ _ h=>h) (Or.inl ⟨by rfl,?_⟩) ?_ ?_;rotate_left
     ·
      intro w';go_simp;with_reducible rfl
     rotate_left
     ·
      simp only [Act.put,List.setIfInBounds_toArray,List.set_cons_zero,List.set_cons_succ,i64_w,i32_w];rfl
     refine pure_ (i:=7) (N:=some 16) (v:=?_) (a':=?_) #[true,true,true,true,true,true,true,true,false] rfl rfl (any_of HT_.out (by kernel_rfl)) (fun _ _ _ h=>h) (Or.inl ⟨by rfl,?_⟩) ?_ ?_;rotate_left
     ·
      intro w';go_simp;with_reducible rfl
     rotate_left
     ·
      simp only [Act.put,List.setIfInBounds_toArray,List.set_cons_zero,List.set_cons_succ,i64_w,i32_w];rfl
     refine last_ (i:=8) (N:=none) #[true,true,true,true,true,true,true,true,true] rfl rfl (one_of HT_.out (by kernel_rfl)) (by decide) (fun K hK=>?_);have hs9:w8.cell? ⟨gb144,0,none⟩=some (.int .i64 x145000_1):=(blk_cell BK144.out 0).trans rfl;have hfs9:=blk_frozen BK144.out 0;have hns9_1:=NB145_144.out;have hns9_2:=NB146_144.out;have hms9_1:=NB144_145.out;have hms9_2:=NB144_146.out;refine skip_ (w1:=?_) (by rfl) rfl ?_ ?_;rotate_left
     ·
      go_simp;rfl
     refine hK.out _ _ ?_;clear hK K;refine done_ (done_of HT_.out (by kernel_rfl)) ?_;try go_wp2
     go_roundg k1
     case measure=>have:=HK1.out;omega
     case rel=>exact ⟨(1),(wrap64 (x145000_1 - a1_0)),(x145001_1),(x145002_1),(x145003_1),(by first|rfl|(simp;done)|(simp [*];done)),H',⟨by have:=HK1.out;omega⟩,⟨by refine blk_put (cs:=#[.int .i64 x145000_1,.int .i64 x145001_1,.int .i64 x145002_1,.int .i64 x145003_1]) ?_ 0 _ rfl;exact BK144.out⟩,⟨by refine blk_far ?_ NB145_144.out _;exact BK145.out⟩,⟨by refine blk_far ?_ NB146_144.out _;exact BK146.out⟩,⟨by repeat (first|(with_reducible first|exact HB.out|apply below_alloc|apply pw_below_drewN|apply below_drew1|refine below_set ?_ GE144.out|refine below_set ?_ GE145.out|refine below_set ?_ GE146.out)|exact HB.out)⟩⟩
    ·
     rw [if_neg c7] at H
     by_cases c10:x6_1=1
     ·
      subst c10;have H1:(norm_quat_minus.l0 k1 2 x145000_1 (wrap64 (x145001_1 - a1_1)) x145002_1 x145003_1 a1_0 a1_1 a1_2 a1_3)=some (r1,r2,r3,r4):=by (try rw [if_pos rfl] at H);first|exact H|simpa using H
      clear H;have H:=H1;clear H1;have H':=mk0 H;clear H;try go_wp2
      replace BK144:=bdr BK144;replace BK145:=bdr BK145;replace BK146:=bdr BK146;replace HB:=hdr HB;refine start_ (n:=9) (S:=fun w'=>w'.cell? ⟨gb144,0,none⟩=some (.int .i64 x145000_1)∧w'.cell? ⟨gb144,1,none⟩=some (.int .i64 x145001_1)∧w'.cell? ⟨gb144,2,none⟩=some (.int .i64 x145002_1)∧w'.cell? ⟨gb144,3,none⟩=some (.int .i64 x145003_1)∧w'.cell? ⟨gb145,0,none⟩=some (.int .i64 a1_0)∧w'.cell? ⟨gb145,1,none⟩=some (.int .i64 a1_1)∧w'.cell? ⟨gb145,2,none⟩=some (.int .i64 a1_2)∧w'.cell? ⟨gb145,3,none⟩=some (.int .i64 a1_3)) (ds:=[8]) #[false,false,false,false,false,false,false,false,false] (by kernel_rfl) rfl rfl ⟨(blk_cell BK144.out 0).trans rfl,(blk_cell BK144.out 1).trans rfl,(blk_cell BK144.out 2).trans rfl,(blk_cell BK144.out 3).trans rfl,(blk_cell BK145.out 0).trans rfl,(blk_cell BK145.out 1).trans rfl,(blk_cell BK145.out 2).trans rfl,(blk_cell BK145.out 3).trans rfl⟩ (fun hHeld=>?_);refine with_tabW norm_quat_minus.tab4 norm_quat_minus.bits4 (fun HT_ HW_=>?_);generalize wr.drew=w11 at BK144 BK145 BK146 HB hHeld ⊢;refine pure_ (i:=0) (N:=some 9) (v:=?_) (a':=?_) #[true,false,false,false,false,false,false,false,false] rfl rfl (any_of HT_.out (by kernel_rfl)) (fun _ _ _ h=>h) (Or.inl ⟨by rfl,?_⟩) ?_ ?_;rotate_left
      ·
       intro w';go_simp;with_reducible rfl
      rotate_left
      ·
       simp only [Act.put,List.setIfInBounds_toArray,List.set_cons_zero,List.set_cons_succ,i64_w,i32_w];rfl
      refine pure_ (i:=1) (N:=some 10) (v:=?_) (a':=?_) #[true,true,false,false,false,false,false,false,false] rfl rfl (any_of HT_.out (by kernel_rfl)) (fun _ _ _ h=>h) (Or.inl ⟨by rfl,?_⟩) ?_ ?_;rotate_left
      ·
       intro w';go_simp;with_reducible rfl
      rotate_left
      ·
       simp only [Act.put,List.setIfInBounds_toArray,List.set_cons_zero,List.set_cons_succ,i64_w,i32_w];rfl
      refine pure_ (i:=3) (N:=some 12) (v:=?_) (a':=?_) #[true,true,false,true,false,false,false,false,false] rfl rfl (any_of HT_.out (by kernel_rfl)) (fun _ _ _ h=>h) (Or.inl ⟨by rfl,?_⟩) ?_ ?_;rotate_left
      ·
       intro w';go_simp;with_reducible rfl
      rotate_left
      ·
       simp only [Act.put,List.setIfInBounds_toArray,List.set_cons_zero,List.set_cons_succ,i64_w,i32_w];rfl
      refine pure_ (i:=4) (N:=some 13) (v:=?_) (a':=?_) #[true,true,false,true,true,false,false,false,false] rfl rfl (any_of HT_.out (by kernel_rfl)) (fun _ _ _ h=>h) (Or.inl ⟨by rfl,?_⟩) ?_ ?_;rotate_left
      ·
       intro w';go_simp;with_reducible rfl
      rotate_left
      ·
       simp only [Act.put,List.setIfInBounds_toArray,List.set_cons_zero,List.set_cons_succ,i64_w,i32_w];rfl
      refine take_ (i:=2) (N:=some 11) (v:=?_) (a':=?_) #[true,true,true,true,true,false,false,false,false] rfl rfl (take_ofW HT_.out HW_.out (by kernel_rfl)) (fun _ _ _ h=>h) (Or.inl ⟨by rfl,?_⟩) hHeld ?_ ?_;rotate_left
      ·
       rintro w' ⟨s0,s1,s2,s3,s4,s5,s6,s7⟩;go_simp;with_reducible rfl
      rotate_left
      ·
       simp only [Act.put,List.setIfInBounds_toArray,List.set_cons_zero,List.set_cons_succ,i64_w,i32_w];rfl
      refine take_ (i:=5) (N:=some 14) (v:=?_) (a':=?_) #[true,true,true,true,true,true,false,false,false] rfl rfl (take_ofW HT_.out HW_.out (by kernel_rfl)) (fun _ _ _ h=>h) (Or.inl ⟨by rfl,?_⟩) hHeld ?_ ?_;rotate_left
      ·
       rintro w' ⟨s0,s1,s2,s3,s4,s5,s6,s7⟩;go_simp;with_reducible rfl
      rotate_left
      ·
       simp only [Act.put,List.setIfInBounds_toArray,List.set_cons_zero,List.set_cons_succ,i64_w,i32_w];rfl
      refine pure_ (i:=6) (N:=some 15) (v:=?_) (a':=?_) #[true,true,true,true,true,true,true,false,false] rfl rfl (any_of HT_.out (by kernel_rfl)) (fun _ _ _ h=>h) (Or.inl ⟨by rfl,?_⟩) ?_ ?_;rotate_left
      ·
       intro w';go_simp;with_reducible rfl
      rotate_left
      ·
       simp only [Act.put,List.setIfInBounds_toArray,List.set_cons_zero,List.set_cons_succ,i64_w,i32_w];rfl
      refine pure_ (i:=7) (N:=some 16) (v:=?_) (a':=?_) #[true,true,true,true,true,true,true,true,false] rfl rfl (any_of HT_.out (by kernel_rfl)) (fun _ _ _ h=>h) (Or.inl ⟨by rfl,?_⟩) ?_ ?_;rotate_left
      ·
       intro w';go_simp;with_reducible rfl
      rotate_left
      ·
       simp only [Act.put,List.setIfInBounds_toArray,List.set_cons_zero,List.set_cons_succ,i64_w,i32_w];rfl
      refine last_ (i:=8) (N:=none) #[true,true,true,true,true,true,true,true,true] rfl rfl (one_of HT_.out (by kernel_rfl)) (by decide) (fun K hK=>?_);have hs12:w11.cell? ⟨gb144,1,none⟩=some (.int .i64 x145001_1):=(blk_cell BK144.out 1).trans rfl;have hfs12:=blk_frozen BK144.out 1;have hns12_1:=NB145_144.out;have hns12_2:=NB146_144.out;have hms12_1:=NB144_145.out;have hms12_2:=NB144_146.out;refine skip_ (w1:=?_) (by rfl) rfl ?_ ?_;rotate_left
      ·
       go_simp;rfl
      refine hK.out _ _ ?_;clear hK K;refine done_ (done_of HT_.out (by kernel_rfl)) ?_;try go_wp2
      go_roundg k1
      case measure=>have:=HK1.out;omega
      case rel=>exact ⟨(2),(x145000_1),(wrap64 (x145001_1 - a1_1)),(x145002_1),(x145003_1),(by first|rfl|(simp;done)|(simp [*];done)),H',⟨by have:=HK1.out;omega⟩,⟨by refine blk_put (cs:=#[.int .i64 x145000_1,.int .i64 x145001_1,.int .i64 x145002_1,.int .i64 x145003_1]) ?_ 1 _ rfl;exact BK144.out⟩,⟨by refine blk_far ?_ NB145_144.out _;exact BK145.out⟩,⟨by refine blk_far ?_ NB146_144.out _;exact BK146.out⟩,⟨by repeat (first|(with_reducible first|exact HB.out|apply below_alloc|apply pw_below_drewN|apply below_drew1|refine below_set ?_ GE144.out|refine below_set ?_ GE145.out|refine below_set ?_ GE146.out)|exact HB.out)⟩⟩
     ·
      rw [if_neg c10] at H
      by_cases c13:x6_1=2
      ·
       subst c13;have H1:(norm_quat_minus.l0 k1 3 x145000_1 x145001_1 (wrap64 (x145002_1 - a1_2)) x145003_1 a1_0 a1_1 a1_2 a1_3)=some (r1,r2,r3,r4):=by (try rw [if_pos rfl] at H);first|exact H|simpa using H
       clear H;have H:=H1;clear H1;have H':=mk0 H;clear H;try go_wp2
       replace BK144:=bdr BK144;replace BK145:=bdr BK145;replace BK146:=bdr BK146;replace HB:=hdr HB;refine start_ (n:=9) (S:=fun w'=>w'.cell? ⟨gb144,0,none⟩=some (.int .i64 x145000_1)∧w'.cell? ⟨gb144,1,none⟩=some (.int .i64 x145001_1)∧w'.cell? ⟨gb144,2,none⟩=some (.int .i64 x145002_1)∧w'.cell? ⟨gb144,3,none⟩=some (.int .i64 x145003_1)∧w'.cell? ⟨gb145,0,none⟩=some (.int .i64 a1_0)∧w'.cell? ⟨gb145,1,none⟩=some (.int .i64 a1_1)∧w'.cell? ⟨gb145,2,none⟩=some (.int .i64 a1_2)∧w'.cell? ⟨gb145,3,none⟩=some (.int .i64 a1_3)) (ds:=[8]) #[false,false,false,false,false,false,false,false,false] (by kernel_rfl) rfl rfl ⟨(blk_cell BK144.out 0).trans rfl,(blk_cell BK144.out 1).trans rfl,(blk_cell BK144.out 2).trans rfl,(blk_cell BK144.out 3).trans rfl,(blk_cell BK145.out 0).trans rfl,(blk_cell BK145.out 1).trans rfl,(blk_cell BK145.out 2).trans rfl,(blk_cell BK145.out 3).trans rfl⟩ (fun hHeld=>?_);refine with_tabW norm_quat_minus.tab4 norm_quat_minus.bits4 (fun HT_ HW_=>?_);generalize wr.drew=w14 at BK144 BK145 BK146 HB hHeld ⊢;refine pure_ (i:=0) (N:=some 9) (v:=?_) (a':=?_) #[true,false,false,false,false,false,false,false,false] rfl rfl (any_of HT_.out (by kernel_rfl)) (fun _ _ _ h=>h) (Or.inl ⟨by rfl,?_⟩) ?_ ?_;rotate_left
       ·
        intro w';go_simp;with_reducible rfl
       rotate_left
       ·
        simp only [Act.put,List.setIfInBounds_toArray,List.set_cons_zero,List.set_cons_succ,i64_w,i32_w];rfl
       refine pure_ (i:=1) (N:=some 10) (v:=?_) (a':=?_) #[true,true,false,false,false,false,false,false,false] rfl rfl (any_of HT_.out (by kernel_rfl)) (fun _ _ _ h=>h) (Or.inl ⟨by rfl,?_⟩) ?_ ?_;rotate_left
       ·
        intro w';go_simp;with_reducible rfl
       rotate_left
       ·
        simp only [Act.put,List.setIfInBounds_toArray,List.set_cons_zero,List.set_cons_succ,i64_w,i32_w];rfl
       refine pure_ (i:=3) (N:=some 12) (v:=?_) (a':=?_) #[true,true,false,true,false,false,false,false,false] rfl rfl (any_of HT_.out (by kernel_rfl)) (fun _ _ _ h=>h) (Or.inl ⟨by rfl,?_⟩) ?_ ?_;rotate_left
       ·
        intro w';go_simp;with_reducible rfl
       rotate_left
       ·
        simp only [Act.put,List.setIfInBounds_toArray,List.set_cons_zero,List.set_cons_succ,i64_w,i32_w];rfl
       refine pure_ (i:=4) (N:=some 13) (v:=?_) (a':=?_) #[true,true,false,true,true,false,false,false,false] rfl rfl (any_of HT_.out (by kernel_rfl)) (fun _ _ _ h=>h) (Or.inl ⟨by rfl,?_⟩) ?_ ?_;rotate_left
       ·
        intro w';go_simp;with_reducible rfl
       rotate_left
       ·
        simp only [Act.put,List.setIfInBounds_toArray,List.set_cons_zero,List.set_cons_succ,i64_w,i32_w];rfl
       refine take_ (i:=2) (N:=some 11) (v:=?_) (a':=?_) #[true,true,true,true,true,false,false,false,false] rfl rfl (take_ofW HT_.out HW_.out (by kernel_rfl)) (fun _ _ _ h=>h) (Or.inl ⟨by rfl,?_⟩) hHeld ?_ ?_;rotate_left
       ·
        rintro w' ⟨s0,s1,s2,s3,s4,s5,s6,s7⟩;go_simp;with_reducible rfl
       rotate_left
       ·
        simp only [Act.put,List.setIfInBounds_toArray,List.set_cons_zero,List.set_cons_succ,i64_w,i32_w];rfl
       refine take_ (i:=5) (N:=some 14) (v:=?_) (a':=?_) #[true,true,true,true,true,true,false,false,false] rfl rfl (take_ofW HT_.out HW_.out (by kernel_rfl)) (fun _ _ _ h=>h) (Or.inl ⟨by rfl,?_⟩) hHeld ?_ ?_;rotate_left
       ·
        rintro w' ⟨s0,s1,s2,s3,s4,s5,s6,s7⟩;go_simp;with_reducible rfl
       rotate_left
       ·
        simp only [Act.put,List.setIfInBounds_toArray,List.set_cons_zero,List.set_cons_succ,i64_w,i32_w];rfl
       refine pure_ (i:=6) (N:=some 15) (v:=?_) (a':=?_) #[true,true,true,true,true,true,true,false,false] rfl rfl (any_of HT_.out (by kernel_rfl)) (fun _ _ _ h=>h) (Or.inl ⟨by rfl,?_⟩) ?_ ?_;rotate_left
       ·
        intro w';go_simp;with_reducible rfl
       rotate_left
       ·
        simp only [Act.put,List.setIfInBounds_toArray,List.set_cons_zero,List.set_cons_succ,i64_w,i32_w];rfl
       refine pure_ (i:=7) (N:=some 16) (v:=?_) (a':=?_) #[true,true,true,true,true,true,true,true,false] rfl rfl (any_of HT_.out (by kernel_rfl)) (fun _ _ _ h=>h) (Or.inl ⟨by rfl,?_⟩) ?_ ?_;rotate_left
       ·
        intro w';go_simp;with_reducible rfl
       rotate_left
       ·
        simp only [Act.put,List.setIfInBounds_toArray,List.set_cons_zero,List.set_cons_succ,i64_w,i32_w];rfl
       refine last_ (i:=8) (N:=none) #[true,true,true,true,true,true,true,true,true] rfl rfl (one_of HT_.out (by kernel_rfl)) (by decide) (fun K hK=>?_);have hs15:w14.cell? ⟨gb144,2,none⟩=some (.int .i64 x145002_1):=(blk_cell BK144.out 2).trans rfl;have hfs15:=blk_frozen BK144.out 2;have hns15_1:=NB145_144.out;have hns15_2:=NB146_144.out;have hms15_1:=NB144_145.out;have hms15_2:=NB144_146.out;refine skip_ (w1:=?_) (by rfl) rfl ?_ ?_;rotate_left
       ·
        go_simp;rfl
       refine hK.out _ _ ?_;clear hK K;refine done_ (done_of HT_.out (by kernel_rfl)) ?_;try go_wp2
       go_roundg k1
       case measure=>have:=HK1.out;omega
       case rel=>exact ⟨(3),(x145000_1),(x145001_1),(wrap64 (x145002_1 - a1_2)),(x145003_1),(by first|rfl|(simp;done)|(simp [*];done)),H',⟨by have:=HK1.out;omega⟩,⟨by refine blk_put (cs:=#[.int .i64 x145000_1,.int .i64 x145001_1,.int .i64 x145002_1,.int .i64 x145003_1]) ?_ 2 _ rfl;exact BK144.out⟩,⟨by refine blk_far ?_ NB145_144.out _;exact BK145.out⟩,⟨by refine blk_far ?_ NB146_144.out _;exact BK146.out⟩,⟨by repeat (first|(with_reducible first|exact HB.out|apply below_alloc|apply pw_below_drewN|apply below_drew1|refine below_set ?_ GE144.out|refine below_set ?_ GE145.out|refine below_set ?_ GE146.out)|exact HB.out)⟩⟩
      ·
       rw [if_neg c13] at H
       by_cases c16:x6_1=3
       ·
        subst c16;have H1:(norm_quat_minus.l0 k1 4 x145000_1 x145001_1 x145002_1 (wrap64 (x145003_1 - a1_3)) a1_0 a1_1 a1_2 a1_3)=some (r1,r2,r3,r4):=by (try rw [if_pos rfl] at H);first|exact H|simpa using H
        clear H;have H:=H1;clear H1;have H':=mk0 H;clear H;try go_wp2
        replace BK144:=bdr BK144;replace BK145:=bdr BK145;replace BK146:=bdr BK146;replace HB:=hdr HB;refine start_ (n:=9) (S:=fun w'=>w'.cell? ⟨gb144,0,none⟩=some (.int .i64 x145000_1)∧w'.cell? ⟨gb144,1,none⟩=some (.int .i64 x145001_1)∧w'.cell? ⟨gb144,2,none⟩=some (.int .i64 x145002_1)∧w'.cell? ⟨gb144,3,none⟩=some (.int .i64 x145003_1)∧w'.cell? ⟨gb145,0,none⟩=some (.int .i64 a1_0)∧w'.cell? ⟨gb145,1,none⟩=some (.int .i64 a1_1)∧w'.cell? ⟨gb145,2,none⟩=some (.int .i64 a1_2)∧w'.cell? ⟨gb145,3,none⟩=some (.int .i64 a1_3)) (ds:=[8]) #[false,false,false,false,false,false,false,false,false] (by kernel_rfl) rfl rfl ⟨(blk_cell BK144.out 0).trans rfl,(blk_cell BK144.out 1).trans rfl,(blk_cell BK144.out 2).trans rfl,(blk_cell BK144.out 3).trans rfl,(blk_cell BK145.out 0).trans rfl,(blk_cell BK145.out 1).trans rfl,(blk_cell BK145.out 2).trans rfl,(blk_cell BK145.out 3).trans rfl⟩ (fun hHeld=>?_);refine with_tabW norm_quat_minus.tab4 norm_quat_minus.bits4 (fun HT_ HW_=>?_);generalize wr.drew=w17 at BK144 BK145 BK146 HB hHeld ⊢;refine pure_ (i:=0) (N:=some 9) (v:=?_) (a':=?_) #[true,false,false,false,false,false,false,false,false] rfl rfl (any_of HT_.out (by kernel_rfl)) (fun _ _ _ h=>h) (Or.inl ⟨by rfl,?_⟩) ?_ ?_;rotate_left
        ·
         intro w';go_simp;with_reducible rfl
        rotate_left
        ·
         simp only [Act.put,List.setIfInBounds_toArray,List.set_cons_zero,List.set_cons_succ,i64_w,i32_w];rfl
        refine pure_ (i:=1) (N:=some 10) (v:=?_) (a':=?_) #[true,true,false,false,false,false,false,false,false] rfl rfl (any_of HT_.out (by kernel_rfl)) (fun _ _ _ h=>h) (Or.inl ⟨by rfl,?_⟩) ?_ ?_;rotate_left
        ·
         intro w';go_simp;with_reducible rfl
        rotate_left
        ·
         simp only [Act.put,List.setIfInBounds_toArray,List.set_cons_zero,List.set_cons_succ,i64_w,i32_w];rfl
        refine pure_ (i:=3) (N:=some 12) (v:=?_) (a':=?_) #[true,true,false,true,false,false,false,false,false] rfl rfl (any_of HT_.out (by kernel_rfl)) (fun _ _ _ h=>h) (Or.inl ⟨by rfl,?_⟩) ?_ ?_;rotate_left
        ·
         intro w';go_simp;with_reducible rfl
        rotate_left
        ·
         simp only [Act.put,List.setIfInBounds_toArray,List.set_cons_zero,List.set_cons_succ,i64_w,i32_w];rfl
        refine pure_ (i:=4) (N:=some 13) (v:=?_) (a':=?_) #[true,true,false,true,true,false,false,false,false] rfl rfl (any_of HT_.out (by kernel_rfl)) (fun _ _ _ h=>h) (Or.inl ⟨by rfl,?_⟩) ?_ ?_;rotate_left
        ·
         intro w';go_simp;with_reducible rfl
        rotate_left
        ·
         simp only [Act.put,List.setIfInBounds_toArray,List.set_cons_zero,List.set_cons_succ,i64_w,i32_w];rfl
        refine take_ (i:=2) (N:=some 11) (v:=?_) (a':=?_) #[true,true,true,true,true,false,false,false,false] rfl rfl (take_ofW HT_.out HW_.out (by kernel_rfl)) (fun _ _ _ h=>h) (Or.inl ⟨by rfl,?_⟩) hHeld ?_ ?_;rotate_left
        ·
         rintro w' ⟨s0,s1,s2,s3,s4,s5,s6,s7⟩;go_simp;with_reducible rfl
        rotate_left
        ·
         simp only [Act.put,List.setIfInBounds_toArray,List.set_cons_zero,List.set_cons_succ,i64_w,i32_w];rfl
        refine take_ (i:=5) (N:=some 14) (v:=?_) (a':=?_) #[true,true,true,true,true,true,false,false,false] rfl rfl (take_ofW HT_.out HW_.out (by kernel_rfl)) (fun _ _ _ h=>h) (Or.inl ⟨by rfl,?_⟩) hHeld ?_ ?_;rotate_left
        ·
         rintro w' ⟨s0,s1,s2,s3,s4,s5,s6,s7⟩;go_simp;with_reducible rfl
        rotate_left
        ·
         simp only [Act.put,List.setIfInBounds_toArray,List.set_cons_zero,List.set_cons_succ,i64_w,i32_w];rfl
        refine pure_ (i:=6) (N:=some 15) (v:=?_) (a':=?_) #[true,true,true,true,true,true,true,false,false] rfl rfl (any_of HT_.out (by kernel_rfl)) (fun _ _ _ h=>h) (Or.inl ⟨by rfl,?_⟩) ?_ ?_;rotate_left
        ·
         intro w';go_simp;with_reducible rfl
        rotate_left
        ·
         simp only [Act.put,List.setIfInBounds_toArray,List.set_cons_zero,List.set_cons_succ,i64_w,i32_w];rfl
        refine pure_ (i:=7) (N:=some 16) (v:=?_) (a':=?_) #[true,true,true,true,true,true,true,true,false] rfl rfl (any_of HT_.out (by kernel_rfl)) (fun _ _ _ h=>h) (Or.inl ⟨by rfl,?_⟩) ?_ ?_;rotate_left
        ·
         intro w';go_simp;with_reducible rfl
        rotate_left
        ·
         simp only [Act.put,List.setIfInBounds_toArray,List.set_cons_zero,List.set_cons_succ,i64_w,i32_w];rfl
        refine last_ (i:=8) (N:=none) #[true,true,true,true,true,true,true,true,true] rfl rfl (one_of HT_.out (by kernel_rfl)) (by decide) (fun K hK=>?_);have hs18:w17.cell? ⟨gb144,3,none⟩=some (.int .i64 x145003_1):=(blk_cell BK144.out 3).trans rfl;have hfs18:=blk_frozen BK144.out 3;have hns18_1:=NB145_144.out;have hns18_2:=NB146_144.out;have hms18_1:=NB144_145.out;have hms18_2:=NB144_146.out;refine skip_ (w1:=?_) (by rfl) rfl ?_ ?_;rotate_left
        ·
         go_simp;rfl
        refine hK.out _ _ ?_;clear hK K;refine done_ (done_of HT_.out (by kernel_rfl)) ?_;try go_wp2
        go_roundg k1
        case measure=>have:=HK1.out;omega
        case rel=>exact ⟨(4),(x145000_1),(x145001_1),(x145002_1),(wrap64 (x145003_1 - a1_3)),(by first|rfl|(simp;done)|(simp [*];done)),H',⟨by have:=HK1.out;omega⟩,⟨by refine blk_put (cs:=#[.int .i64 x145000_1,.int .i64 x145001_1,.int .i64 x145002_1,.int .i64 x145003_1]) ?_ 3 _ rfl;exact BK144.out⟩,⟨by refine blk_far ?_ NB145_144.out _;exact BK145.out⟩,⟨by refine blk_far ?_ NB146_144.out _;exact BK146.out⟩,⟨by repeat (first|(with_reducible first|exact HB.out|apply below_alloc|apply pw_below_drewN|apply below_drew1|refine below_set ?_ GE144.out|refine below_set ?_ GE145.out|refine below_set ?_ GE146.out)|exact HB.out)⟩⟩
       ·
        rw [if_neg c16] at H;exact absurd H (by simp)
   ·
    rw [if_neg c6] at H;have c6b0:decide (x6_1 < 4)=false:=decide_eq_false c6;clear c6;simp only [Option.some.injEq,Prod.mk.injEq] at H;obtain ⟨rfl,rfl,rfl,rfl⟩:=H;have hnb19:=NB144_145.out;have hnc19:=NB145_144.out;have hnb20:=NB144_146.out;have hnc20:=NB146_144.out;have hcz21_0:wr.cell? ⟨gb144,0,none⟩=some (.int .i64 x145000_1):=(blk_cell BK144.out 0).trans rfl;have hcz21_1:wr.cell? ⟨gb144,1,none⟩=some (.int .i64 x145001_1):=(blk_cell BK144.out 1).trans rfl;have hcz21_2:wr.cell? ⟨gb144,2,none⟩=some (.int .i64 x145002_1):=(blk_cell BK144.out 2).trans rfl;have hcz21_3:wr.cell? ⟨gb144,3,none⟩=some (.int .i64 x145003_1):=(blk_cell BK144.out 3).trans rfl;have hfz21_0:=blk_frozen BK144.out 0;have hfz21_1:=blk_frozen BK144.out 1;have hfz21_2:=blk_frozen BK144.out 2;have hfz21_3:=blk_frozen BK144.out 3;have hnb22:=NB146_145.out;have hnc22:=NB145_146.out;have hcz23_0:wr.cell? ⟨gb146,0,none⟩=some (.int .i64 0):=(blk_cell BK146.out 0).trans rfl;have hcz23_1:wr.cell? ⟨gb146,1,none⟩=some (.int .i64 0):=(blk_cell BK146.out 1).trans rfl;have hcz23_2:wr.cell? ⟨gb146,2,none⟩=some (.int .i64 0):=(blk_cell BK146.out 2).trans rfl;have hcz23_3:wr.cell? ⟨gb146,3,none⟩=some (.int .i64 0):=(blk_cell BK146.out 3).trans rfl;have hfz23_0:=blk_frozen BK146.out 0;have hfz23_1:=blk_frozen BK146.out 1;have hfz23_2:=blk_frozen BK146.out 2;have hfz23_3:=blk_frozen BK146.out 3;go_wp2;refine bodyPost_ret (results_cell_row rfl _ _ gb146 67 #[.int .i64 x145000_1,.int .i64 x145001_1,.int .i64 x145002_1,.int .i64 x145003_1] (0,0) _ rfl (by refine blk_put (cs:=#[.int .i64 x145000_1,.int .i64 x145001_1,.int .i64 x145002_1,.int .i64 0]) ?_ 3 _ rfl;refine blk_put (cs:=#[.int .i64 x145000_1,.int .i64 x145001_1,.int .i64 0,.int .i64 0]) ?_ 2 _ rfl;refine blk_put (cs:=#[.int .i64 x145000_1,.int .i64 0,.int .i64 0,.int .i64 0]) ?_ 1 _ rfl;refine blk_put (cs:=#[.int .i64 0,.int .i64 0,.int .i64 0,.int .i64 0]) ?_ 0 _ rfl;exact BK146.out) Try.underlying67 rfl (by kernel_rfl)) rfl ?_;exact ⟨by first|rfl|(simp [errW_none,errW_some] <;> rfl)|(simp [*,errW_none,errW_some] <;> rfl),by repeat (first|(with_reducible first|exact HB.out|apply below_alloc|apply pw_below_drewN|apply below_drew1|refine below_set ?_ GE144.out|refine below_set ?_ GE145.out|refine below_set ?_ GE146.out)|exact HB.out)⟩
end Go.Proofs.Ytgfnmimfoicmmaa.PM
