import Derived.Test.YtkonljiembcdlaaPCx0
import Derived.Test.YtkonljiembcdlaaPCx2
import Derived.Test.YtkonljiembcdlaaPCx5
import Derived.Test.YtkonljiembcdlaaPCx6
namespace Go.Proofs.Ytkonljiembcdlaa.PC
open Go.Proofs.MyWords Go.RowKit Go.Proofs.YtkonljiembcdlaaW.PrintWords Go.Proofs.YtkonljiembcdlaaW.PrintLast Go.Proofs.YtkonljiembcdlaaW.PrintMore
attribute [local go_sem] max2_int min2_int max_two min_two max_three min_three max_four min_four   -- for this text's walks alone
set_option linter.unusedVariables false
set_option linter.unusedSimpArgs false
attribute [local go_sem] eqGuard_slices eqlnil23 neqnil23 eqlnil58 neqnil58
def bellpulllaw05_CountCommutes.f (k:Nat) (l0:List Int) (l1:List Int) (a2_0:Int) (a2_1:Int) (a2_2:Int):Option (Bool):=(bellpulllaw05_code.f k l0 10).bind fun t328=>((bellpulllaw05_code.f k l1 10).bind fun t329=>((some (([Int.tmod (wrap64 (a2_0)) 5,Int.tmod (wrap64 (a2_1)) 5,Int.tmod (wrap64 (a2_2)) 5]:List Int):List Int)).bind fun y330=>(if t328.size + t329.size ≤ 9223372036854775807 then (if (t328 ++ t329).size + 1 ≤ 9223372036854775807 then ((count_Accepts.f k ((t328 ++ t329) ++ (⟨#[46]⟩:ByteArray)) y330).bind fun bt333=>(if t329.size + t328.size ≤ 9223372036854775807 then (if (t329 ++ t328).size + 1 ≤ 9223372036854775807 then ((count_Accepts.f k ((t329 ++ t328) ++ (⟨#[46]⟩:ByteArray)) y330).bind fun bt335=>((count_Accepts.f k ((t328 ++ t329) ++ (⟨#[43]⟩:ByteArray)) y330).bind fun bt337=>((count_Accepts.f k ((t329 ++ t328) ++ (⟨#[43]⟩:ByteArray)) y330).bind fun bt339=>((count_Accepts.f k t328 y330).bind fun bt341=>((count_Accepts.f k t329 y330).bind fun bt343=>(if bt333.2=0 then (if bt335.2=0 then (if bt337.2=0 then (if bt339.2=0 then (if bt341.2=0 then (if bt343.2=0 then (if bt333.1=true then (if bt335.1=true then (if bt337.1=true then (if bt339.1=true then (if bt341.1=true then ((bellpulllaw05_lives.f k).bind fun t345=>(some t345)) else (if bt343.1=true then ((bellpulllaw05_lives.f k).bind fun t346=>(some t346)) else (none))) else (none)) else (if bt339.1=true then (none) else (if bt341.1=true then (none) else (if bt343.1=true then (none) else ((bellpulllaw05_lives.f k).bind fun t347=>(some t347)))))) else (none)) else (if bt335.1=true then (none) else (if bt337.1=true then (if bt339.1=true then (if bt341.1=true then ((bellpulllaw05_lives.f k).bind fun t348=>(some t348)) else (if bt343.1=true then ((bellpulllaw05_lives.f k).bind fun t349=>(some t349)) else (none))) else (none)) else (if bt339.1=true then (none) else (if bt341.1=true then (none) else (if bt343.1=true then (none) else ((bellpulllaw05_lives.f k).bind fun t350=>(some t350)))))))) else (none)) else (none)) else (none)) else (none)) else (none)) else (none))))))) else (none)) else (none))) else (none)) else (none))))
theorem bellpulllaw05_CountCommutes.mono:∀ a0 a1 a2 a3 a4 k,LeO (bellpulllaw05_CountCommutes.f k a0 a1 a2 a3 a4) (bellpulllaw05_CountCommutes.f (k + 1) a0 a1 a2 a3 a4):=by
  intro a0 a1 a2 a3 a4 k
  unfold bellpulllaw05_CountCommutes.f
  with_reducible repeat' first|exact bellpulllaw05_code.mono _ _ _|exact bellpulllaw05_lives.mono _|exact count_Accepts.mono _ _ _|exact LeO.refl _|exact LeO.none _|refine LeO.ite ?_ ?_|refine LeO.bind ?_ (fun _=>?_)
def bellpulllaw05_CountCommutes.T1:Bool × List (List Nat × List Nat):=(true,[([],[]),([0],[0]),([],[]),([2,1],[2]),([],[]),([4],[4]),([5],[5]),([6],[6]),([],[]),([8],[8]),([9],[9]),([10],[10]),([],[]),([12],[12]),([13],[13]),([14],[14]),([7,11,15],[7,11,15]),([1,3,0,1],[1]),([3,17,0,1,2,3,17],[3]),([16,18,0,1,2,3,4,5,6,7,8,9,10,11,12,13,14,15,16,17,18],[16])])
def bellpulllaw05_CountCommutes.B1:List Nat:=[0,1,0,7,0,16,48,112,0,256,768,1792,0,4096,12288,28672,65520,15,131087,524287]
theorem bellpulllaw05_CountCommutes.tab1:rtab .any (opsOf Try.f9 1)=bellpulllaw05_CountCommutes.T1:=by kernel_rfl
theorem bellpulllaw05_CountCommutes.bits1:waitsOk bellpulllaw05_CountCommutes.T1.2 bellpulllaw05_CountCommutes.B1=true:=by kernel_rfl
set_option maxHeartbeats 8000000 in
set_option maxRecDepth 100000 in
theorem bellpulllaw05_CountCommutes.calls (k:Nat) (A0:Option Addr) (c0:Nat) (l0:List Int) (A1:Option Addr) (c1:Nat) (l1:List Int) (a2_0:Int) (a2_1:Int) (a2_2:Int) (r:Bool) (w:World) (hr0:Kd.C (Kd.int .u8) w A0 l0.length l0) (hc0:l0.length ≤ c0) (hr1:Kd.C (Kd.int .u8) w A1 l1.length l1) (hc1:l1.length ≤ c1) (h:bellpulllaw05_CountCommutes.f k l0 l1 a2_0 a2_1 a2_2=some r) :
    Calls Try.prog 9 #[.slice A0 l0.length c0,.slice A1 l1.length c1,.agg #[.int .u8 a2_0,.int .u8 a2_1,.int .u8 a2_2]] w fun e w'=>e=.returned (.bool r)∧Below w.heap.size w w':=by
 have hu51:=Try.underlying51;have HR0:=mk0 hr0;have HC0:=mk0 hc0;clear hr0 hc0;have HR1:=mk0 hr1;have HC1:=mk0 hc1;clear hr1 hc1;have HB:=mk0 (Below.refl w.heap.size w);have H:((bellpulllaw05_code.f k l0 10).bind fun t328=>((bellpulllaw05_code.f k l1 10).bind fun t329=>((some (([Int.tmod (wrap64 (a2_0)) 5,Int.tmod (wrap64 (a2_1)) 5,Int.tmod (wrap64 (a2_2)) 5]:List Int):List Int)).bind fun y330=>(if t328.size + t329.size ≤ 9223372036854775807 then (if (t328 ++ t329).size + 1 ≤ 9223372036854775807 then ((count_Accepts.f k ((t328 ++ t329) ++ (⟨#[46]⟩:ByteArray)) y330).bind fun bt333=>(if t329.size + t328.size ≤ 9223372036854775807 then (if (t329 ++ t328).size + 1 ≤ 9223372036854775807 then ((count_Accepts.f k ((t329 ++ t328) ++ (⟨#[46]⟩:ByteArray)) y330).bind fun bt335=>((count_Accepts.f k ((t328 ++ t329) ++ (⟨#[43]⟩:ByteArray)) y330).bind fun bt337=>((count_Accepts.f k ((t329 ++ t328) ++ (⟨#[43]⟩:ByteArray)) y330).bind fun bt339=>((count_Accepts.f k t328 y330).bind fun bt341=>((count_Accepts.f k t329 y330).bind fun bt343=>(if bt333.2=0 then (if bt335.2=0 then (if bt337.2=0 then (if bt339.2=0 then (if bt341.2=0 then (if bt343.2=0 then (if bt333.1=true then (if bt335.1=true then (if bt337.1=true then (if bt339.1=true then (if bt341.1=true then ((bellpulllaw05_lives.f k).bind fun t345=>(some t345)) else (if bt343.1=true then ((bellpulllaw05_lives.f k).bind fun t346=>(some t346)) else (none))) else (none)) else (if bt339.1=true then (none) else (if bt341.1=true then (none) else (if bt343.1=true then (none) else ((bellpulllaw05_lives.f k).bind fun t347=>(some t347)))))) else (none)) else (if bt335.1=true then (none) else (if bt337.1=true then (if bt339.1=true then (if bt341.1=true then ((bellpulllaw05_lives.f k).bind fun t348=>(some t348)) else (if bt343.1=true then ((bellpulllaw05_lives.f k).bind fun t349=>(some t349)) else (none))) else (none)) else (if bt339.1=true then (none) else (if bt341.1=true then (none) else (if bt343.1=true then (none) else ((bellpulllaw05_lives.f k).bind fun t350=>(some t350)))))))) else (none)) else (none)) else (none)) else (none)) else (none)) else (none))))))) else (none)) else (none))) else (none)) else (none)))))=some r:=h;clear h;replace H:=Option.bind_eq_some_iff.mp H;obtain ⟨t328,A40,H⟩:=H;(try dsimp only at H);have A4:=mk0 A40;clear A40;replace H:=Option.bind_eq_some_iff.mp H;obtain ⟨t329,A50,H⟩:=H;(try dsimp only at H);have A5:=mk0 A50;clear A50;obtain ⟨y330,hy330⟩:∃ y_:List Int,y_=(([Int.tmod (wrap64 (a2_0)) 5,Int.tmod (wrap64 (a2_1)) 5,Int.tmod (wrap64 (a2_2)) 5]:List Int)):=⟨_,rfl⟩
 replace H:(if t328.size + t329.size ≤ 9223372036854775807 then (if (t328 ++ t329).size + 1 ≤ 9223372036854775807 then ((count_Accepts.f k ((t328 ++ t329) ++ (⟨#[46]⟩:ByteArray)) y330).bind fun bt333=>(if t329.size + t328.size ≤ 9223372036854775807 then (if (t329 ++ t328).size + 1 ≤ 9223372036854775807 then ((count_Accepts.f k ((t329 ++ t328) ++ (⟨#[46]⟩:ByteArray)) y330).bind fun bt335=>((count_Accepts.f k ((t328 ++ t329) ++ (⟨#[43]⟩:ByteArray)) y330).bind fun bt337=>((count_Accepts.f k ((t329 ++ t328) ++ (⟨#[43]⟩:ByteArray)) y330).bind fun bt339=>((count_Accepts.f k t328 y330).bind fun bt341=>((count_Accepts.f k t329 y330).bind fun bt343=>(if bt333.2=0 then (if bt335.2=0 then (if bt337.2=0 then (if bt339.2=0 then (if bt341.2=0 then (if bt343.2=0 then (if bt333.1=true then (if bt335.1=true then (if bt337.1=true then (if bt339.1=true then (if bt341.1=true then ((bellpulllaw05_lives.f k).bind fun t345=>(some t345)) else (if bt343.1=true then ((bellpulllaw05_lives.f k).bind fun t346=>(some t346)) else (none))) else (none)) else (if bt339.1=true then (none) else (if bt341.1=true then (none) else (if bt343.1=true then (none) else ((bellpulllaw05_lives.f k).bind fun t347=>(some t347)))))) else (none)) else (if bt335.1=true then (none) else (if bt337.1=true then (if bt339.1=true then (if bt341.1=true then ((bellpulllaw05_lives.f k).bind fun t348=>(some t348)) else (if bt343.1=true then ((bellpulllaw05_lives.f k).bind fun t349=>(some t349)) else (none))) else (none)) else (if bt339.1=true then (none) else (if bt341.1=true then (none) else (if bt343.1=true then (none) else ((bellpulllaw05_lives.f k).bind fun t350=>(some t350)))))))) else (none)) else (none)) else (none)) else (none)) else (none)) else (none))))))) else (none)) else (none))) else (none)) else (none))=some r:=by first|(rw [hy330];with_reducible exact H)|(have H2_:=(Option.bind_some _ _).symm.trans H;rw [hy330];with_reducible exact H2_)|(have H2_:=(Option.bind_some _ _).symm.trans H;with_reducible exact H2_)|with_reducible exact H|(rw [hy330];exact H)|exact H
 have Ny330:=mk0 hy330;clear hy330
 by_cases c6:t328.size + t329.size ≤ 9223372036854775807
 ·
  rw [if_pos c6] at H;have c6b0:=eq_true c6;have c6b1:decide (t328.size + t329.size ≤ 9223372036854775807)=true:=decide_eq_true c6;try have c6b2:(9223372036854775807 < t328.size + t329.size)=False:=eq_false (Nat.not_lt.2 c6)
  by_cases c7:(t328 ++ t329).size + 1 ≤ 9223372036854775807
  ·
   rw [if_pos c7] at H;have c7b0:=eq_true c7;have c7b1:decide ((t328 ++ t329).size + 1 ≤ 9223372036854775807)=true:=decide_eq_true c7;try have c7b2:(9223372036854775807 < (t328 ++ t329).size + 1)=False:=eq_false (Nat.not_lt.2 c7);try have c7b3:(9223372036854775807 < t328.size + t329.size + 1)=False:=eq_false (by have h_:=c7;rw [ByteArray.size_append] at h_;omega)
   replace H:=Option.bind_eq_some_iff.mp H;obtain ⟨⟨t333,t334⟩,A80,H⟩:=H;(try dsimp only at H);have A8:=mk0 A80;clear A80
   by_cases c9:t329.size + t328.size ≤ 9223372036854775807
   ·
    rw [if_pos c9] at H;have c9b0:=eq_true c9;have c9b1:decide (t329.size + t328.size ≤ 9223372036854775807)=true:=decide_eq_true c9;try have c9b2:(9223372036854775807 < t329.size + t328.size)=False:=eq_false (Nat.not_lt.2 c9)
    by_cases c10:(t329 ++ t328).size + 1 ≤ 9223372036854775807
    ·
     rw [if_pos c10] at H;have c10b0:=eq_true c10;have c10b1:decide ((t329 ++ t328).size + 1 ≤ 9223372036854775807)=true:=decide_eq_true c10;try have c10b2:(9223372036854775807 < (t329 ++ t328).size + 1)=False:=eq_false (Nat.not_lt.2 c10);try have c10b3:(9223372036854775807 < t329.size + t328.size + 1)=False:=eq_false (by have h_:=c10;rw [ByteArray.size_append] at h_;omega)
     replace H:=Option.bind_eq_some_iff.mp H;obtain ⟨⟨t335,t336⟩,A110,H⟩:=H;(try dsimp only at H);have A11:=mk0 A110;clear A110;replace H:=Option.bind_eq_some_iff.mp H;obtain ⟨⟨t337,t338⟩,A120,H⟩:=H;(try dsimp only at H);have A12:=mk0 A120;clear A120;replace H:=Option.bind_eq_some_iff.mp H;obtain ⟨⟨t339,t340⟩,A130,H⟩:=H;(try dsimp only at H);have A13:=mk0 A130;clear A130;replace H:=Option.bind_eq_some_iff.mp H;obtain ⟨⟨t341,t342⟩,A140,H⟩:=H;(try dsimp only at H);have A14:=mk0 A140;clear A140;replace H:=Option.bind_eq_some_iff.mp H;obtain ⟨⟨t343,t344⟩,A150,H⟩:=H;(try dsimp only at H);have A15:=mk0 A150;clear A150
     by_cases c16:t334=0
     ·
      rw [if_pos c16] at H;have c16b0:(t334 == 0)=true:=beq_iff_eq.mpr c16;have c16b1:(t334 != 0)=false:=bne_eq_false_iff_eq.mpr c16;clear c16
      by_cases c17:t336=0
      ·
       rw [if_pos c17] at H;have c17b0:(t336 == 0)=true:=beq_iff_eq.mpr c17;have c17b1:(t336 != 0)=false:=bne_eq_false_iff_eq.mpr c17;clear c17
       by_cases c18:t338=0
       ·
        rw [if_pos c18] at H;have c18b0:(t338 == 0)=true:=beq_iff_eq.mpr c18;have c18b1:(t338 != 0)=false:=bne_eq_false_iff_eq.mpr c18;clear c18
        by_cases c19:t340=0
        ·
         rw [if_pos c19] at H;have c19b0:(t340 == 0)=true:=beq_iff_eq.mpr c19;have c19b1:(t340 != 0)=false:=bne_eq_false_iff_eq.mpr c19;clear c19
         by_cases c20:t342=0
         ·
          rw [if_pos c20] at H;have c20b0:(t342 == 0)=true:=beq_iff_eq.mpr c20;have c20b1:(t342 != 0)=false:=bne_eq_false_iff_eq.mpr c20;clear c20
          by_cases c21:t344=0
          ·
           rw [if_pos c21] at H;have c21b0:(t344 == 0)=true:=beq_iff_eq.mpr c21;have c21b1:(t344 != 0)=false:=bne_eq_false_iff_eq.mpr c21;clear c21
           by_cases c22:t333=true
           ·
            subst c22;have H1:(if t335=true then (if t337=true then (if t339=true then (if t341=true then ((bellpulllaw05_lives.f k).bind fun t345=>(some t345)) else (if t343=true then ((bellpulllaw05_lives.f k).bind fun t346=>(some t346)) else (none))) else (none)) else (if t339=true then (none) else (if t341=true then (none) else (if t343=true then (none) else ((bellpulllaw05_lives.f k).bind fun t347=>(some t347)))))) else (none))=some r:=by rw [if_pos rfl] at H;exact H
            clear H;have H:=H1;clear H1
            by_cases c23:t335=true
            ·
             subst c23;have H1:(if t337=true then (if t339=true then (if t341=true then ((bellpulllaw05_lives.f k).bind fun t345=>(some t345)) else (if t343=true then ((bellpulllaw05_lives.f k).bind fun t346=>(some t346)) else (none))) else (none)) else (if t339=true then (none) else (if t341=true then (none) else (if t343=true then (none) else ((bellpulllaw05_lives.f k).bind fun t347=>(some t347))))))=some r:=by rw [if_pos rfl] at H;exact H
             clear H;have H:=H1;clear H1
             by_cases c24:t337=true
             ·
              subst c24;have H1:(if t339=true then (if t341=true then ((bellpulllaw05_lives.f k).bind fun t345=>(some t345)) else (if t343=true then ((bellpulllaw05_lives.f k).bind fun t346=>(some t346)) else (none))) else (none))=some r:=by rw [if_pos rfl] at H;exact H
              clear H;have H:=H1;clear H1
              by_cases c25:t339=true
              ·
               subst c25;have H1:(if t341=true then ((bellpulllaw05_lives.f k).bind fun t345=>(some t345)) else (if t343=true then ((bellpulllaw05_lives.f k).bind fun t346=>(some t346)) else (none)))=some r:=by rw [if_pos rfl] at H;exact H
               clear H;have H:=H1;clear H1
               by_cases c26:t341=true
               ·
                subst c26;have H1:((bellpulllaw05_lives.f k).bind fun t345=>(some t345))=some r:=by rw [if_pos rfl] at H;exact H
                clear H;have H:=H1;clear H1;replace H:=Option.bind_eq_some_iff.mp H;obtain ⟨t345,A270,H⟩:=H;(try dsimp only at H);have A27:=mk0 A270;clear A270;obtain rfl:=Option.some.inj H;go_enter Try.func9,Try.ntmps9;try go_wp2_with (first|((with_reducible refine gate_dst (N:=5) rfl ?_);refine box_event ?hg (N:=5) ?hd (cs:=#[.int .u8 a2_0,.int .u8 a2_1,.int .u8 a2_2]) (t:=51) ?hr ?_;(case hd=>rfl);(case hg=>rfl);(case hr=>first|(go_simp;done)|(go_simp;rfl));intro gb327 hg w28 hbox hb;have BK327:=mk0 (hbox);have GW327:=szw hg HB;have GE327:=GW327;replace HB:=bst HB hb;clear hb hbox hg))
                replace BK327:=bdr BK327;replace HB:=hdr HB;refine start_ (n:=20) (S:=fun w'=>True) (ds:=[]) #[false,false,false,false,false,false,false,false,false,false,false,false,false,false,false,false,false,false,false,false] (by kernel_rfl) rfl rfl trivial (fun hHeld=>?_);refine with_tabW bellpulllaw05_CountCommutes.tab1 bellpulllaw05_CountCommutes.bits1 (fun HT_ HW_=>?_);generalize w28.drew=w29 at BK327 HB hHeld ⊢;refine pure_ (i:=0) (N:=some 22) (v:=?_) (a':=?_) #[true,false,false,false,false,false,false,false,false,false,false,false,false,false,false,false,false,false,false,false] rfl rfl (any_of HT_.out (by kernel_rfl)) (fun _ _ _ h=>h) (Or.inl ⟨by rfl,?_⟩) ?_ ?_;rotate_left
                ·
                 intro w';go_simp;with_reducible rfl
                rotate_left
                ·
                 simp only [Act.put,List.setIfInBounds_toArray,List.set_cons_zero,List.set_cons_succ,i64_w,i32_w];rfl
                refine pure_ (i:=2) (N:=some 24) (v:=?_) (a':=?_) #[true,false,true,false,false,false,false,false,false,false,false,false,false,false,false,false,false,false,false,false] rfl rfl (any_of HT_.out (by kernel_rfl)) (fun _ _ _ h=>h) (Or.inl ⟨by rfl,?_⟩) ?_ ?_;rotate_left
                ·
                 intro w';go_simp;with_reducible rfl
                rotate_left
                ·
                 simp only [Act.put,List.setIfInBounds_toArray,List.set_cons_zero,List.set_cons_succ,i64_w,i32_w];rfl
                refine inv_at [1,3,4,5,6,7,8,9,10,11,12,13,14,15,16,17,18,19] (fun a0_ b a w'=>∃ (v331:Value) (m19_:Value),a=putSel a0_ b [(1,23,.string t328),(3,25,.string t329),(4,26,.pointer (some ⟨gb327,0,none⟩)),(5,27,.int .u8 a2_0),(6,28,.int .i64 (wrap64 (a2_0))),(7,29,.int .i64 (Int.tmod (wrap64 (a2_0)) 5)),(8,30,.pointer (some ⟨gb327,1,none⟩)),(9,31,.int .u8 a2_1),(10,32,.int .i64 (wrap64 (a2_1))),(11,33,.int .i64 (Int.tmod (wrap64 (a2_1)) 5)),(12,34,.pointer (some ⟨gb327,2,none⟩)),(13,35,.int .u8 a2_2),(14,36,.int .i64 (wrap64 (a2_2))),(15,37,.int .i64 (Int.tmod (wrap64 (a2_2)) 5)),(16,38,v331),(17,7,.string t328),(18,8,.string t329),(19,9,m19_)]∧(w'.heap[gb327]?=some (.cells #[.int .u8 a2_0,.int .u8 a2_1,.int .u8 a2_2] 51 (0,0)))∧(Below w.heap.size w w')∧(b 16=true → Kd.R (Kd.int .i64) 3 w' w.heap.size (fun _=>True) v331 y330)∧(b 19=true → (m19_:Value)=v331)) HT_.out HW_.out (by kernel_rfl) (by kernel_rfl) ?_ ?_ ?_
                ·
                 exact ⟨.bool false,.bool false,by simp only [putSel,Bool.false_eq_true,if_false],BK327.out,HB.out,fun h_=>absurd h_ (by decide),fun h_=>absurd h_ (by decide)⟩
                ·
                 skip
                 clear BK327 HB;refine steps_cons ?_ ?_
                 ·
                  rintro b a w' ⟨v331,m19_,ha,Q_BK327,Q_HB,Q_HO332,Q_X19_⟩ hb_ hon hoff;refine ⟨_,rfl,fun K hK=>?_⟩;have e22:a.tmps[22]?=some (.slice A0 l0.length c0):=by rw [ha];exact (putSel_off rfl).trans rfl
                  replace ha:=mk0 ha;have BK327:=mk0 Q_BK327;have HB:=mk0 Q_HB;refine goes_ Try.func32 (by kernel_rfl) rfl #[.slice A0 l0.length c0,.int .i64 10] (by rfl) rfl rfl (by first|(simp only [List.map_toArray,List.map_cons,List.map_nil,Act.eval,Array.getD_eq_getD_getElem?,Option.getD_some,e22];done)|(simp only [List.map_toArray,List.map_cons,List.map_nil,Act.eval,Array.getD_eq_getD_getElem?,Option.getD_some,e22];rfl)) ?_;with_reducible refine (bellpulllaw05_code.calls k _ _ l0 10 t328 _ ?side1 ?side2 A4.out).mono ?_
                  (case side1=>repeat (first|exact (Kd.C_below HR0.out HB.out)|(with_reducible refine Kd.C_alloc ?_ _)|(with_reducible refine Kd.C_drewN ?_ _)|(with_reducible refine Kd.C_drew ?_)));(case side2=>exact HC0.out);rintro e w30 ⟨rfl,hb⟩;refine ⟨_,rfl,?_⟩;have n0_:=bkb BK327 hb;have n1_:=bst HB hb;have z_HO332:=fun (h0_:b 16=true)=>(show Kd.R (Kd.int .i64) 3 w30 w.heap.size (fun _=>True) v331 y330 from by first|exact (Kd.R_below (by (with_reducible repeat (first|apply Kd.R_alloc|apply Kd.R_drewN|apply Kd.R_drew));exact (Q_HO332 h0_)) hb)|exact Kd.R_mono (Kd.R_below (by (with_reducible repeat (first|apply Kd.R_alloc|apply Kd.R_drewN|apply Kd.R_drew));exact (Q_HO332 h0_)) hb) (fun _ h_=>by first|trivial|exact h_|exact h_.1))
                  clear BK327;clear HB;have BK327:=n0_;have HB:=n1_;clear n0_ n1_;(try clear hb);refine hK.out _ _ ⟨v331,m19_,(by rw [ha.out];exact putSel_upk 0 hb_ rfl rfl rfl),BK327.out,HB.out,z_HO332,fun h0_=>absurd ((hoff 19 (by kernel_rfl)).symm.trans h0_) (by decide)⟩
                 refine steps_cons ?_ ?_
                 ·
                  rintro b a w' ⟨v331,m19_,ha,Q_BK327,Q_HB,Q_HO332,Q_X19_⟩ hb_ hon hoff;refine ⟨_,rfl,fun K hK=>?_⟩;have e24:a.tmps[24]?=some (.slice A1 l1.length c1):=by rw [ha];exact (putSel_off rfl).trans rfl
                  replace ha:=mk0 ha;have BK327:=mk0 Q_BK327;have HB:=mk0 Q_HB;refine goes_ Try.func32 (by kernel_rfl) rfl #[.slice A1 l1.length c1,.int .i64 10] (by rfl) rfl rfl (by first|(simp only [List.map_toArray,List.map_cons,List.map_nil,Act.eval,Array.getD_eq_getD_getElem?,Option.getD_some,e24];done)|(simp only [List.map_toArray,List.map_cons,List.map_nil,Act.eval,Array.getD_eq_getD_getElem?,Option.getD_some,e24];rfl)) ?_;with_reducible refine (bellpulllaw05_code.calls k _ _ l1 10 t329 _ ?side1 ?side2 A5.out).mono ?_
                  (case side1=>repeat (first|exact (Kd.C_below HR1.out HB.out)|(with_reducible refine Kd.C_alloc ?_ _)|(with_reducible refine Kd.C_drewN ?_ _)|(with_reducible refine Kd.C_drew ?_)));(case side2=>exact HC1.out);rintro e w32 ⟨rfl,hb⟩;refine ⟨_,rfl,?_⟩;have n0_:=bkb BK327 hb;have n1_:=bst HB hb;have z_HO332:=fun (h0_:b 16=true)=>(show Kd.R (Kd.int .i64) 3 w32 w.heap.size (fun _=>True) v331 y330 from by first|exact (Kd.R_below (by (with_reducible repeat (first|apply Kd.R_alloc|apply Kd.R_drewN|apply Kd.R_drew));exact (Q_HO332 h0_)) hb)|exact Kd.R_mono (Kd.R_below (by (with_reducible repeat (first|apply Kd.R_alloc|apply Kd.R_drewN|apply Kd.R_drew));exact (Q_HO332 h0_)) hb) (fun _ h_=>by first|trivial|exact h_|exact h_.1))
                  clear BK327;clear HB;have BK327:=n0_;have HB:=n1_;clear n0_ n1_;(try clear hb);refine hK.out _ _ ⟨v331,m19_,(by rw [ha.out];exact putSel_upk 1 hb_ rfl rfl rfl),BK327.out,HB.out,z_HO332,fun h0_=>absurd ((hoff 19 (by kernel_rfl)).symm.trans h0_) (by decide)⟩
                 refine steps_cons ?_ ?_
                 ·
                  rintro b a w' ⟨v331,m19_,ha,Q_BK327,Q_HB,Q_HO332,Q_X19_⟩ hb_ hon hoff;refine ⟨_,rfl,fun K hK=>?_⟩;have e5:a.tmps[5]?=some (.pointer (some ⟨gb327,0,none⟩)):=by rw [ha];exact (putSel_off rfl).trans rfl
                  replace ha:=mk0 ha;have BK327:=mk0 Q_BK327;have HB:=mk0 Q_HB;refine value_ (w1:=w') (v:=.pointer (some ⟨gb327,0,none⟩)) (by rfl) rfl ?_ ?_
                  ·
                   go_simp;(try simp only [i64_w]);try rfl
                  refine hK.out _ _ ⟨v331,m19_,(by rw [ha.out];exact putSel_upk 2 hb_ rfl rfl rfl),Q_BK327,Q_HB,fun h0_=>absurd ((hoff 16 (by kernel_rfl)).symm.trans h0_) (by decide),fun h0_=>absurd ((hoff 19 (by kernel_rfl)).symm.trans h0_) (by decide)⟩
                 refine steps_cons ?_ ?_
                 ·
                  rintro b a w' ⟨v331,m19_,ha,Q_BK327,Q_HB,Q_HO332,Q_X19_⟩ hb_ hon hoff;refine ⟨_,rfl,fun K hK=>?_⟩;have e26:a.tmps[26]?=some (.pointer (some ⟨gb327,0,none⟩)):=by rw [ha];exact putSel_on (e:=(4,26,.pointer (some ⟨gb327,0,none⟩))) 2 rfl rfl (hon 4 (by kernel_rfl)) rfl
                  replace ha:=mk0 ha;have BK327:=mk0 Q_BK327;have HB:=mk0 Q_HB;have hc0_:w'.cell? ⟨gb327,0,none⟩=some (.int .u8 a2_0):=(blk_cell BK327.out 0).trans rfl;have hc1_:w'.cell? ⟨gb327,1,none⟩=some (.int .u8 a2_1):=(blk_cell BK327.out 1).trans rfl;have hc2_:w'.cell? ⟨gb327,2,none⟩=some (.int .u8 a2_2):=(blk_cell BK327.out 2).trans rfl;refine value_ (w1:=w') (v:=.int .u8 a2_0) (by rfl) rfl ?_ ?_
                  ·
                   go_simp;(try simp only [i64_w]);try rfl
                  refine hK.out _ _ ⟨v331,m19_,(by rw [ha.out];exact putSel_upk 3 hb_ rfl rfl rfl),Q_BK327,Q_HB,fun h0_=>absurd ((hoff 16 (by kernel_rfl)).symm.trans h0_) (by decide),fun h0_=>absurd ((hoff 19 (by kernel_rfl)).symm.trans h0_) (by decide)⟩
                 refine steps_cons ?_ ?_
                 ·
                  rintro b a w' ⟨v331,m19_,ha,Q_BK327,Q_HB,Q_HO332,Q_X19_⟩ hb_ hon hoff;refine ⟨_,rfl,fun K hK=>?_⟩;have e27:a.tmps[27]?=some (.int .u8 a2_0):=by rw [ha];exact putSel_on (e:=(5,27,.int .u8 a2_0)) 3 rfl rfl (hon 5 (by kernel_rfl)) rfl
                  replace ha:=mk0 ha;have BK327:=mk0 Q_BK327;have HB:=mk0 Q_HB;refine value_ (w1:=w') (v:=.int .i64 (wrap64 (a2_0))) (by rfl) rfl ?_ ?_
                  ·
                   go_simp;(try simp only [i64_w]);try rfl
                  refine hK.out _ _ ⟨v331,m19_,(by rw [ha.out];exact putSel_upk 4 hb_ rfl rfl rfl),Q_BK327,Q_HB,fun h0_=>absurd ((hoff 16 (by kernel_rfl)).symm.trans h0_) (by decide),fun h0_=>absurd ((hoff 19 (by kernel_rfl)).symm.trans h0_) (by decide)⟩
                 refine steps_cons ?_ ?_
                 ·
                  rintro b a w' ⟨v331,m19_,ha,Q_BK327,Q_HB,Q_HO332,Q_X19_⟩ hb_ hon hoff;refine ⟨_,rfl,fun K hK=>?_⟩;have e28:a.tmps[28]?=some (.int .i64 (wrap64 (a2_0))):=by rw [ha];exact putSel_on (e:=(6,28,.int .i64 (wrap64 (a2_0)))) 4 rfl rfl (hon 6 (by kernel_rfl)) rfl
                  replace ha:=mk0 ha;have BK327:=mk0 Q_BK327;have HB:=mk0 Q_HB;refine value_ (w1:=w') (v:=.int .i64 (Int.tmod (wrap64 (a2_0)) 5)) (by rfl) rfl ?_ ?_
                  ·
                   go_simp;(try simp only [i64_w]);try rfl
                  refine hK.out _ _ ⟨v331,m19_,(by rw [ha.out];exact putSel_upk 5 hb_ rfl rfl rfl),Q_BK327,Q_HB,fun h0_=>absurd ((hoff 16 (by kernel_rfl)).symm.trans h0_) (by decide),fun h0_=>absurd ((hoff 19 (by kernel_rfl)).symm.trans h0_) (by decide)⟩
                 refine steps_cons ?_ ?_
                 ·
                  rintro b a w' ⟨v331,m19_,ha,Q_BK327,Q_HB,Q_HO332,Q_X19_⟩ hb_ hon hoff;refine ⟨_,rfl,fun K hK=>?_⟩;have e5:a.tmps[5]?=some (.pointer (some ⟨gb327,0,none⟩)):=by rw [ha];exact (putSel_off rfl).trans rfl
                  replace ha:=mk0 ha;have BK327:=mk0 Q_BK327;have HB:=mk0 Q_HB;refine value_ (w1:=w') (v:=.pointer (some ⟨gb327,1,none⟩)) (by rfl) rfl ?_ ?_
                  ·
                   go_simp;(try simp only [i64_w]);try rfl
                  refine hK.out _ _ ⟨v331,m19_,(by rw [ha.out];exact putSel_upk 6 hb_ rfl rfl rfl),Q_BK327,Q_HB,fun h0_=>absurd ((hoff 16 (by kernel_rfl)).symm.trans h0_) (by decide),fun h0_=>absurd ((hoff 19 (by kernel_rfl)).symm.trans h0_) (by decide)⟩
                 refine steps_cons ?_ ?_
                 ·
                  rintro b a w' ⟨v331,m19_,ha,Q_BK327,Q_HB,Q_HO332,Q_X19_⟩ hb_ hon hoff;refine ⟨_,rfl,fun K hK=>?_⟩;have e30:a.tmps[30]?=some (.pointer (some ⟨gb327,1,none⟩)):=by rw [ha];exact putSel_on (e:=(8,30,.pointer (some ⟨gb327,1,none⟩))) 6 rfl rfl (hon 8 (by kernel_rfl)) rfl
                  replace ha:=mk0 ha;have BK327:=mk0 Q_BK327;have HB:=mk0 Q_HB;have hc0_:w'.cell? ⟨gb327,0,none⟩=some (.int .u8 a2_0):=(blk_cell BK327.out 0).trans rfl;have hc1_:w'.cell? ⟨gb327,1,none⟩=some (.int .u8 a2_1):=(blk_cell BK327.out 1).trans rfl;have hc2_:w'.cell? ⟨gb327,2,none⟩=some (.int .u8 a2_2):=(blk_cell BK327.out 2).trans rfl;refine value_ (w1:=w') (v:=.int .u8 a2_1) (by rfl) rfl ?_ ?_
                  ·
                   go_simp;(try simp only [i64_w]);try rfl
                  refine hK.out _ _ ⟨v331,m19_,(by rw [ha.out];exact putSel_upk 7 hb_ rfl rfl rfl),Q_BK327,Q_HB,fun h0_=>absurd ((hoff 16 (by kernel_rfl)).symm.trans h0_) (by decide),fun h0_=>absurd ((hoff 19 (by kernel_rfl)).symm.trans h0_) (by decide)⟩
                 refine steps_cons ?_ ?_
                 ·
                  rintro b a w' ⟨v331,m19_,ha,Q_BK327,Q_HB,Q_HO332,Q_X19_⟩ hb_ hon hoff;refine ⟨_,rfl,fun K hK=>?_⟩;have e31:a.tmps[31]?=some (.int .u8 a2_1):=by rw [ha];exact putSel_on (e:=(9,31,.int .u8 a2_1)) 7 rfl rfl (hon 9 (by kernel_rfl)) rfl
                  replace ha:=mk0 ha;have BK327:=mk0 Q_BK327;have HB:=mk0 Q_HB;refine value_ (w1:=w') (v:=.int .i64 (wrap64 (a2_1))) (by rfl) rfl ?_ ?_
                  ·
                   go_simp;(try simp only [i64_w]);try rfl
                  refine hK.out _ _ ⟨v331,m19_,(by rw [ha.out];exact putSel_upk 8 hb_ rfl rfl rfl),Q_BK327,Q_HB,fun h0_=>absurd ((hoff 16 (by kernel_rfl)).symm.trans h0_) (by decide),fun h0_=>absurd ((hoff 19 (by kernel_rfl)).symm.trans h0_) (by decide)⟩
                 refine steps_cons ?_ ?_
                 ·
                  rintro b a w' ⟨v331,m19_,ha,Q_BK327,Q_HB,Q_HO332,Q_X19_⟩ hb_ hon hoff;refine ⟨_,rfl,fun K hK=>?_⟩;have e32:a.tmps[32]?=some (.int .i64 (wrap64 (a2_1))):=by rw [ha];exact putSel_on (e:=(10,32,.int .i64 (wrap64 (a2_1)))) 8 rfl rfl (hon 10 (by kernel_rfl)) rfl
                  replace ha:=mk0 ha;have BK327:=mk0 Q_BK327;have HB:=mk0 Q_HB;refine value_ (w1:=w') (v:=.int .i64 (Int.tmod (wrap64 (a2_1)) 5)) (by rfl) rfl ?_ ?_
                  ·
                   go_simp;(try simp only [i64_w]);try rfl
                  refine hK.out _ _ ⟨v331,m19_,(by rw [ha.out];exact putSel_upk 9 hb_ rfl rfl rfl),Q_BK327,Q_HB,fun h0_=>absurd ((hoff 16 (by kernel_rfl)).symm.trans h0_) (by decide),fun h0_=>absurd ((hoff 19 (by kernel_rfl)).symm.trans h0_) (by decide)⟩
                 refine steps_cons ?_ ?_
                 ·
                  rintro b a w' ⟨v331,m19_,ha,Q_BK327,Q_HB,Q_HO332,Q_X19_⟩ hb_ hon hoff;refine ⟨_,rfl,fun K hK=>?_⟩;have e5:a.tmps[5]?=some (.pointer (some ⟨gb327,0,none⟩)):=by rw [ha];exact (putSel_off rfl).trans rfl
                  replace ha:=mk0 ha;have BK327:=mk0 Q_BK327;have HB:=mk0 Q_HB;refine value_ (w1:=w') (v:=.pointer (some ⟨gb327,2,none⟩)) (by rfl) rfl ?_ ?_
                  ·
                   go_simp;(try simp only [i64_w]);try rfl
                  refine hK.out _ _ ⟨v331,m19_,(by rw [ha.out];exact putSel_upk 10 hb_ rfl rfl rfl),Q_BK327,Q_HB,fun h0_=>absurd ((hoff 16 (by kernel_rfl)).symm.trans h0_) (by decide),fun h0_=>absurd ((hoff 19 (by kernel_rfl)).symm.trans h0_) (by decide)⟩
                 refine steps_cons ?_ ?_
                 ·
                  rintro b a w' ⟨v331,m19_,ha,Q_BK327,Q_HB,Q_HO332,Q_X19_⟩ hb_ hon hoff;refine ⟨_,rfl,fun K hK=>?_⟩;have e34:a.tmps[34]?=some (.pointer (some ⟨gb327,2,none⟩)):=by rw [ha];exact putSel_on (e:=(12,34,.pointer (some ⟨gb327,2,none⟩))) 10 rfl rfl (hon 12 (by kernel_rfl)) rfl
                  replace ha:=mk0 ha;have BK327:=mk0 Q_BK327;have HB:=mk0 Q_HB;have hc0_:w'.cell? ⟨gb327,0,none⟩=some (.int .u8 a2_0):=(blk_cell BK327.out 0).trans rfl;have hc1_:w'.cell? ⟨gb327,1,none⟩=some (.int .u8 a2_1):=(blk_cell BK327.out 1).trans rfl;have hc2_:w'.cell? ⟨gb327,2,none⟩=some (.int .u8 a2_2):=(blk_cell BK327.out 2).trans rfl;refine value_ (w1:=w') (v:=.int .u8 a2_2) (by rfl) rfl ?_ ?_
                  ·
                   go_simp;(try simp only [i64_w]);try rfl
                  refine hK.out _ _ ⟨v331,m19_,(by rw [ha.out];exact putSel_upk 11 hb_ rfl rfl rfl),Q_BK327,Q_HB,fun h0_=>absurd ((hoff 16 (by kernel_rfl)).symm.trans h0_) (by decide),fun h0_=>absurd ((hoff 19 (by kernel_rfl)).symm.trans h0_) (by decide)⟩
                 refine steps_cons ?_ ?_
                 ·
                  rintro b a w' ⟨v331,m19_,ha,Q_BK327,Q_HB,Q_HO332,Q_X19_⟩ hb_ hon hoff;refine ⟨_,rfl,fun K hK=>?_⟩;have e35:a.tmps[35]?=some (.int .u8 a2_2):=by rw [ha];exact putSel_on (e:=(13,35,.int .u8 a2_2)) 11 rfl rfl (hon 13 (by kernel_rfl)) rfl
                  replace ha:=mk0 ha;have BK327:=mk0 Q_BK327;have HB:=mk0 Q_HB;refine value_ (w1:=w') (v:=.int .i64 (wrap64 (a2_2))) (by rfl) rfl ?_ ?_
                  ·
                   go_simp;(try simp only [i64_w]);try rfl
                  refine hK.out _ _ ⟨v331,m19_,(by rw [ha.out];exact putSel_upk 12 hb_ rfl rfl rfl),Q_BK327,Q_HB,fun h0_=>absurd ((hoff 16 (by kernel_rfl)).symm.trans h0_) (by decide),fun h0_=>absurd ((hoff 19 (by kernel_rfl)).symm.trans h0_) (by decide)⟩
                 refine steps_cons ?_ ?_
                 ·
                  rintro b a w' ⟨v331,m19_,ha,Q_BK327,Q_HB,Q_HO332,Q_X19_⟩ hb_ hon hoff;refine ⟨_,rfl,fun K hK=>?_⟩;have e36:a.tmps[36]?=some (.int .i64 (wrap64 (a2_2))):=by rw [ha];exact putSel_on (e:=(14,36,.int .i64 (wrap64 (a2_2)))) 12 rfl rfl (hon 14 (by kernel_rfl)) rfl
                  replace ha:=mk0 ha;have BK327:=mk0 Q_BK327;have HB:=mk0 Q_HB;refine value_ (w1:=w') (v:=.int .i64 (Int.tmod (wrap64 (a2_2)) 5)) (by rfl) rfl ?_ ?_
                  ·
                   go_simp;(try simp only [i64_w]);try rfl
                  refine hK.out _ _ ⟨v331,m19_,(by rw [ha.out];exact putSel_upk 13 hb_ rfl rfl rfl),Q_BK327,Q_HB,fun h0_=>absurd ((hoff 16 (by kernel_rfl)).symm.trans h0_) (by decide),fun h0_=>absurd ((hoff 19 (by kernel_rfl)).symm.trans h0_) (by decide)⟩
                 refine steps_cons ?_ ?_
                 ·
                  rintro b a w' ⟨v331,m19_,ha,Q_BK327,Q_HB,Q_HO332,Q_X19_⟩ hb_ hon hoff;refine ⟨_,rfl,fun K hK=>?_⟩;have e29:a.tmps[29]?=some (.int .i64 (Int.tmod (wrap64 (a2_0)) 5)):=by rw [ha];exact putSel_on (e:=(7,29,.int .i64 (Int.tmod (wrap64 (a2_0)) 5))) 5 rfl rfl (hon 7 (by kernel_rfl)) rfl
                  have e33:a.tmps[33]?=some (.int .i64 (Int.tmod (wrap64 (a2_1)) 5)):=by rw [ha];exact putSel_on (e:=(11,33,.int .i64 (Int.tmod (wrap64 (a2_1)) 5))) 9 rfl rfl (hon 11 (by kernel_rfl)) rfl
                  have e37:a.tmps[37]?=some (.int .i64 (Int.tmod (wrap64 (a2_2)) 5)):=by rw [ha];exact putSel_on (e:=(15,37,.int .i64 (Int.tmod (wrap64 (a2_2)) 5))) 13 rfl rfl (hon 15 (by kernel_rfl)) rfl
                  replace ha:=mk0 ha;have BK327:=mk0 Q_BK327;have HB:=mk0 Q_HB;refine Kd.R_lit_step (Kd.int .i64) _ 3 ?hg (N:=38) ?hd (xs:=([Int.tmod (wrap64 (a2_0)) 5,Int.tmod (wrap64 (a2_1)) 5,Int.tmod (wrap64 (a2_2)) 5]:List Int)) (inner:=[.int .i64 (Int.tmod (wrap64 (a2_0)) 5),.int .i64 (Int.tmod (wrap64 (a2_1)) 5),.int .i64 (Int.tmod (wrap64 (a2_2)) 5)]) (ok:=fun _=>True) (okp:=fun _=>True) ?hr ?hp (fun _ hk=>hk) trivial (Below.refl _ _) (Nat.le_refl _) (by simp) ?_;(case hd=>rfl);(case hg=>rfl);(case hr=>first|(go_simp;done)|(go_simp;rfl));(case hp=>exact (Reps.one (show Kd.M (Kd.int .i64) _ _ _ (Int.tmod (wrap64 (a2_0)) 5) [.int .i64 (Int.tmod (wrap64 (a2_0)) 5)] from rfl) (Reps.one (show Kd.M (Kd.int .i64) _ _ _ (Int.tmod (wrap64 (a2_1)) 5) [.int .i64 (Int.tmod (wrap64 (a2_1)) 5)] from rfl) (Reps.one (show Kd.M (Kd.int .i64) _ _ _ (Int.tmod (wrap64 (a2_2)) 5) [.int .i64 (Int.tmod (wrap64 (a2_2)) 5)] from rfl) (Reps.none _ _)))));intro v331 w30 ho31 hb hg_ hnew_;clear hg_ hnew_;(first|rw [← Ny330.out] at ho31|(simp only [Int.reduceToNat] at ho31;rw [← Ny330.out] at ho31));have HO332:=mk0 (Kd.R_lower ho31 (below_size HB.out));replace BK327:=bkb BK327 hb;replace HB:=bst HB hb;clear hb ho31;refine hK.out _ _ ⟨v331,m19_,(by rw [ha.out];exact putSel_upk 14 hb_ rfl rfl rfl),BK327.out,HB.out,fun _=>HO332.out,fun h0_=>absurd ((hoff 19 (by kernel_rfl)).symm.trans h0_) (by decide)⟩
                 refine steps_cons ?_ ?_
                 ·
                  rintro b a w' ⟨v331,m19_,ha,Q_BK327,Q_HB,Q_HO332,Q_X19_⟩ hb_ hon hoff;refine ⟨_,rfl,fun K hK=>?_⟩;have e23:a.tmps[23]?=some (.string t328):=by rw [ha];exact putSel_on (e:=(1,23,.string t328)) 0 rfl rfl (hon 1 (by kernel_rfl)) rfl
                  replace ha:=mk0 ha;have BK327:=mk0 Q_BK327;have HB:=mk0 Q_HB;refine value_ (w1:=w') (v:=.string t328) (by rfl) rfl ?_ ?_
                  ·
                   go_simp;(try simp only [i64_w]);try rfl
                  refine hK.out _ _ ⟨v331,m19_,(by rw [ha.out];exact putSel_upk 15 hb_ rfl rfl rfl),Q_BK327,Q_HB,Q_HO332,fun h0_=>absurd ((hoff 19 (by kernel_rfl)).symm.trans h0_) (by decide)⟩
                 refine steps_cons ?_ ?_
                 ·
                  rintro b a w' ⟨v331,m19_,ha,Q_BK327,Q_HB,Q_HO332,Q_X19_⟩ hb_ hon hoff;refine ⟨_,rfl,fun K hK=>?_⟩;have e25:a.tmps[25]?=some (.string t329):=by rw [ha];exact putSel_on (e:=(3,25,.string t329)) 1 rfl rfl (hon 3 (by kernel_rfl)) rfl
                  replace ha:=mk0 ha;have BK327:=mk0 Q_BK327;have HB:=mk0 Q_HB;refine value_ (w1:=w') (v:=.string t329) (by rfl) rfl ?_ ?_
                  ·
                   go_simp;(try simp only [i64_w]);try rfl
                  refine hK.out _ _ ⟨v331,m19_,(by rw [ha.out];exact putSel_upk 16 hb_ rfl rfl rfl),Q_BK327,Q_HB,Q_HO332,fun h0_=>absurd ((hoff 19 (by kernel_rfl)).symm.trans h0_) (by decide)⟩
                 refine steps_cons ?_ ?_
                 ·
                  rintro b a w' ⟨v331,m19_,ha,Q_BK327,Q_HB,Q_HO332,Q_X19_⟩ hb_ hon hoff;refine ⟨_,rfl,fun K hK=>?_⟩;have e38:a.tmps[38]?=some (v331):=by rw [ha];exact putSel_on (e:=(16,38,v331)) 14 rfl rfl (hon 16 (by kernel_rfl)) rfl
                  replace ha:=mk0 ha;have BK327:=mk0 Q_BK327;have HB:=mk0 Q_HB;have HO332:=mk0 (Q_HO332 (hon 16 (by kernel_rfl)));refine value_ (w1:=w') (v:=v331) (by rfl) rfl ?_ ?_
                  ·
                   go_simp;(try simp only [i64_w]);try rfl
                  refine hK.out _ _ ⟨v331,(v331),(by rw [ha.out];exact putSel_upk 17 hb_ rfl rfl rfl),Q_BK327,Q_HB,Q_HO332,fun _=>rfl⟩
                 exact steps_nil
                rintro b a w34 hall ⟨v331,m19_,ha,Q_BK327,Q_HB,Q_HO332,Q_X19_⟩;clear BK327 HB;have hb1_:=hall 1 (by kernel_rfl);have hb3_:=hall 3 (by kernel_rfl);have hb4_:=hall 4 (by kernel_rfl);have hb5_:=hall 5 (by kernel_rfl);have hb6_:=hall 6 (by kernel_rfl);have hb7_:=hall 7 (by kernel_rfl);have hb8_:=hall 8 (by kernel_rfl);have hb9_:=hall 9 (by kernel_rfl);have hb10_:=hall 10 (by kernel_rfl);have hb11_:=hall 11 (by kernel_rfl);have hb12_:=hall 12 (by kernel_rfl);have hb13_:=hall 13 (by kernel_rfl);have hb14_:=hall 14 (by kernel_rfl);have hb15_:=hall 15 (by kernel_rfl);have hb16_:=hall 16 (by kernel_rfl);have hb17_:=hall 17 (by kernel_rfl);have hb18_:=hall 18 (by kernel_rfl);have hb19_:=hall 19 (by kernel_rfl);subst ha;obtain rfl:=Q_X19_ hb19_;simp only [putSel,hb1_,hb3_,hb4_,hb5_,hb6_,hb7_,hb8_,hb9_,hb10_,hb11_,hb12_,hb13_,hb14_,hb15_,hb16_,hb17_,hb18_,hb19_,if_true,Act.put,List.setIfInBounds_toArray,List.set_cons_zero,List.set_cons_succ];have BK327:=mk0 Q_BK327;clear Q_BK327;have HB:=mk0 Q_HB;clear Q_HB;have HO332:=mk0 (Q_HO332 hb16_);clear Q_HO332;clear hall hb1_ hb3_ hb4_ hb5_ hb6_ hb7_ hb8_ hb9_ hb10_ hb11_ hb12_ hb13_ hb14_ hb15_ hb16_ hb17_ hb18_ hb19_;obtain ⟨Ao35,co35,eo35⟩:=Kd.R_slice HO332.out;subst eo35;try go_wp2_with (first|((with_reducible refine gate_callee (f:=26) rfl ?_);refine goesL_ (some 45) rfl rfl Try.func26 (by kernel_rfl) rfl #[.string ((t328 ++ t329) ++ (⟨#[46]⟩:ByteArray)),.slice Ao35 y330.length co35] rfl (by (try simp only [List.map_toArray,List.map_cons,List.map_nil]);first|done|rfl|(simp only [List.length_drop,List.length_take];rfl)) ?_;(with_reducible refine (count_Accepts.calls k ((t328 ++ t329) ++ (⟨#[46]⟩:ByteArray)) _ _ y330 true t334 _ ?side1 ?side2 A8.out).mono ?_);(case side1=>repeat (first|exact (Kd.R_reads' HO332.out).2.2|(with_reducible refine Kd.C_alloc ?_ _)|(with_reducible refine Kd.C_drewN ?_ _)|(with_reducible refine Kd.C_drew ?_)));(case side2=>exact (Kd.R_reads' HO332.out).2.1);rintro e w36 ⟨rfl,hb⟩;refine ⟨_,rfl,?_⟩;replace HO332:=rbl HO332 hb;replace BK327:=bkb BK327 hb;replace HB:=bst HB hb;(try clear hb))|((with_reducible refine gate_callee (f:=26) rfl ?_);refine goesL_ (some 54) rfl rfl Try.func26 (by kernel_rfl) rfl #[.string ((t329 ++ t328) ++ (⟨#[46]⟩:ByteArray)),.slice Ao35 y330.length co35] rfl (by (try simp only [List.map_toArray,List.map_cons,List.map_nil]);first|done|rfl|(simp only [List.length_drop,List.length_take];rfl)) ?_;(with_reducible refine (count_Accepts.calls k ((t329 ++ t328) ++ (⟨#[46]⟩:ByteArray)) _ _ y330 true t336 _ ?side1 ?side2 A11.out).mono ?_);(case side1=>repeat (first|exact (Kd.R_reads' HO332.out).2.2|(with_reducible refine Kd.C_alloc ?_ _)|(with_reducible refine Kd.C_drewN ?_ _)|(with_reducible refine Kd.C_drew ?_)));(case side2=>exact (Kd.R_reads' HO332.out).2.1);rintro e w37 ⟨rfl,hb⟩;refine ⟨_,rfl,?_⟩;replace HO332:=rbl HO332 hb;replace BK327:=bkb BK327 hb;replace HB:=bst HB hb;(try clear hb))|((with_reducible refine gate_callee (f:=26) rfl ?_);refine goesL_ (some 63) rfl rfl Try.func26 (by kernel_rfl) rfl #[.string ((t328 ++ t329) ++ (⟨#[43]⟩:ByteArray)),.slice Ao35 y330.length co35] rfl (by (try simp only [List.map_toArray,List.map_cons,List.map_nil]);first|done|rfl|(simp only [List.length_drop,List.length_take];rfl)) ?_;(with_reducible refine (count_Accepts.calls k ((t328 ++ t329) ++ (⟨#[43]⟩:ByteArray)) _ _ y330 true t338 _ ?side1 ?side2 A12.out).mono ?_);(case side1=>repeat (first|exact (Kd.R_reads' HO332.out).2.2|(with_reducible refine Kd.C_alloc ?_ _)|(with_reducible refine Kd.C_drewN ?_ _)|(with_reducible refine Kd.C_drew ?_)));(case side2=>exact (Kd.R_reads' HO332.out).2.1);rintro e w38 ⟨rfl,hb⟩;refine ⟨_,rfl,?_⟩;replace HO332:=rbl HO332 hb;replace BK327:=bkb BK327 hb;replace HB:=bst HB hb;(try clear hb))|((with_reducible refine gate_callee (f:=26) rfl ?_);refine goesL_ (some 72) rfl rfl Try.func26 (by kernel_rfl) rfl #[.string ((t329 ++ t328) ++ (⟨#[43]⟩:ByteArray)),.slice Ao35 y330.length co35] rfl (by (try simp only [List.map_toArray,List.map_cons,List.map_nil]);first|done|rfl|(simp only [List.length_drop,List.length_take];rfl)) ?_;(with_reducible refine (count_Accepts.calls k ((t329 ++ t328) ++ (⟨#[43]⟩:ByteArray)) _ _ y330 true t340 _ ?side1 ?side2 A13.out).mono ?_);(case side1=>repeat (first|exact (Kd.R_reads' HO332.out).2.2|(with_reducible refine Kd.C_alloc ?_ _)|(with_reducible refine Kd.C_drewN ?_ _)|(with_reducible refine Kd.C_drew ?_)));(case side2=>exact (Kd.R_reads' HO332.out).2.1);rintro e w39 ⟨rfl,hb⟩;refine ⟨_,rfl,?_⟩;replace HO332:=rbl HO332 hb;replace BK327:=bkb BK327 hb;replace HB:=bst HB hb;(try clear hb))|((with_reducible refine gate_callee (f:=26) rfl ?_);refine goesL_ (some 78) rfl rfl Try.func26 (by kernel_rfl) rfl #[.string t328,.slice Ao35 y330.length co35] rfl (by (try simp only [List.map_toArray,List.map_cons,List.map_nil]);first|done|rfl|(simp only [List.length_drop,List.length_take];rfl)) ?_;(with_reducible refine (count_Accepts.calls k t328 _ _ y330 true t342 _ ?side1 ?side2 A14.out).mono ?_);(case side1=>repeat (first|exact (Kd.R_reads' HO332.out).2.2|(with_reducible refine Kd.C_alloc ?_ _)|(with_reducible refine Kd.C_drewN ?_ _)|(with_reducible refine Kd.C_drew ?_)));(case side2=>exact (Kd.R_reads' HO332.out).2.1);rintro e w40 ⟨rfl,hb⟩;refine ⟨_,rfl,?_⟩;replace HO332:=rbl HO332 hb;replace BK327:=bkb BK327 hb;replace HB:=bst HB hb;(try clear hb))|((with_reducible refine gate_callee (f:=26) rfl ?_);refine goesL_ (some 84) rfl rfl Try.func26 (by kernel_rfl) rfl #[.string t329,.slice Ao35 y330.length co35] rfl (by (try simp only [List.map_toArray,List.map_cons,List.map_nil]);first|done|rfl|(simp only [List.length_drop,List.length_take];rfl)) ?_;(with_reducible refine (count_Accepts.calls k t329 _ _ y330 t343 t344 _ ?side1 ?side2 A15.out).mono ?_);(case side1=>repeat (first|exact (Kd.R_reads' HO332.out).2.2|(with_reducible refine Kd.C_alloc ?_ _)|(with_reducible refine Kd.C_drewN ?_ _)|(with_reducible refine Kd.C_drew ?_)));(case side2=>exact (Kd.R_reads' HO332.out).2.1);rintro e w41 ⟨rfl,hb⟩;refine ⟨_,rfl,?_⟩;replace HO332:=rbl HO332 hb;replace BK327:=bkb BK327 hb;replace HB:=bst HB hb;(try clear hb))|(go_at_call 22;(with_reducible refine (bellpulllaw05_lives.calls k  t345 _ A27.out).mono ?_);rintro e w42 ⟨rfl,hb⟩;replace HO332:=rbl HO332 hb;replace BK327:=bkb BK327 hb;replace HB:=bst HB hb;(try clear hb)))
                go_ret;exact ⟨by first|rfl|(simp [errW_none,errW_some] <;> rfl)|(simp [*,errW_none,errW_some] <;> rfl),by repeat (first|(with_reducible first|exact HB.out|apply below_alloc|apply pw_below_drewN|apply below_drew1|refine below_set ?_ GE327.out)|exact HB.out)⟩
               ·
                replace c26:=Bool.eq_false_iff.mpr c26;subst c26;have H1:(if t343=true then ((bellpulllaw05_lives.f k).bind fun t346=>(some t346)) else (none))=some r:=by rw [if_neg (show ¬ (false=true) by decide)] at H;exact H
                clear H;have H:=H1;clear H1
                by_cases c43:t343=true
                ·
                 subst c43;have H1:((bellpulllaw05_lives.f k).bind fun t346=>(some t346))=some r:=by rw [if_pos rfl] at H;exact H
                 clear H;have H:=H1;clear H1;replace H:=Option.bind_eq_some_iff.mp H;obtain ⟨t346,A440,H⟩:=H;(try dsimp only at H);have A44:=mk0 A440;clear A440;obtain rfl:=Option.some.inj H;go_enter Try.func9,Try.ntmps9;try go_wp2_with (first|((with_reducible refine gate_dst (N:=5) rfl ?_);refine box_event ?hg (N:=5) ?hd (cs:=#[.int .u8 a2_0,.int .u8 a2_1,.int .u8 a2_2]) (t:=51) ?hr ?_;(case hd=>rfl);(case hg=>rfl);(case hr=>first|(go_simp;done)|(go_simp;rfl));intro gb327 hg w45 hbox hb;have BK327:=mk0 (hbox);have GW327:=szw hg HB;have GE327:=GW327;replace HB:=bst HB hb;clear hb hbox hg))
                 replace BK327:=bdr BK327;replace HB:=hdr HB;refine start_ (n:=20) (S:=fun w'=>True) (ds:=[]) #[false,false,false,false,false,false,false,false,false,false,false,false,false,false,false,false,false,false,false,false] (by kernel_rfl) rfl rfl trivial (fun hHeld=>?_);refine with_tabW bellpulllaw05_CountCommutes.tab1 bellpulllaw05_CountCommutes.bits1 (fun HT_ HW_=>?_);generalize w45.drew=w46 at BK327 HB hHeld ⊢;refine pure_ (i:=0) (N:=some 22) (v:=?_) (a':=?_) #[true,false,false,false,false,false,false,false,false,false,false,false,false,false,false,false,false,false,false,false] rfl rfl (any_of HT_.out (by kernel_rfl)) (fun _ _ _ h=>h) (Or.inl ⟨by rfl,?_⟩) ?_ ?_;rotate_left
                 ·
                  intro w';go_simp;with_reducible rfl
                 rotate_left
                 ·
                  simp only [Act.put,List.setIfInBounds_toArray,List.set_cons_zero,List.set_cons_succ,i64_w,i32_w];rfl
                 refine pure_ (i:=2) (N:=some 24) (v:=?_) (a':=?_) #[true,false,true,false,false,false,false,false,false,false,false,false,false,false,false,false,false,false,false,false] rfl rfl (any_of HT_.out (by kernel_rfl)) (fun _ _ _ h=>h) (Or.inl ⟨by rfl,?_⟩) ?_ ?_;rotate_left
                 ·
                  intro w';go_simp;with_reducible rfl
                 rotate_left
                 ·
                  simp only [Act.put,List.setIfInBounds_toArray,List.set_cons_zero,List.set_cons_succ,i64_w,i32_w];rfl
                 refine inv_at [1,3,4,5,6,7,8,9,10,11,12,13,14,15,16,17,18,19] (fun a0_ b a w'=>∃ (v331:Value) (m19_:Value),a=putSel a0_ b [(1,23,.string t328),(3,25,.string t329),(4,26,.pointer (some ⟨gb327,0,none⟩)),(5,27,.int .u8 a2_0),(6,28,.int .i64 (wrap64 (a2_0))),(7,29,.int .i64 (Int.tmod (wrap64 (a2_0)) 5)),(8,30,.pointer (some ⟨gb327,1,none⟩)),(9,31,.int .u8 a2_1),(10,32,.int .i64 (wrap64 (a2_1))),(11,33,.int .i64 (Int.tmod (wrap64 (a2_1)) 5)),(12,34,.pointer (some ⟨gb327,2,none⟩)),(13,35,.int .u8 a2_2),(14,36,.int .i64 (wrap64 (a2_2))),(15,37,.int .i64 (Int.tmod (wrap64 (a2_2)) 5)),(16,38,v331),(17,7,.string t328),(18,8,.string t329),(19,9,m19_)]∧(w'.heap[gb327]?=some (.cells #[.int .u8 a2_0,.int .u8 a2_1,.int .u8 a2_2] 51 (0,0)))∧(Below w.heap.size w w')∧(b 16=true → Kd.R (Kd.int .i64) 3 w' w.heap.size (fun _=>True) v331 y330)∧(b 19=true → (m19_:Value)=v331)) HT_.out HW_.out (by kernel_rfl) (by kernel_rfl) ?_ ?_ ?_
                 ·
                  exact ⟨.bool false,.bool false,by simp only [putSel,Bool.false_eq_true,if_false],BK327.out,HB.out,fun h_=>absurd h_ (by decide),fun h_=>absurd h_ (by decide)⟩
                 ·
                  skip
                  clear BK327 HB;refine steps_cons ?_ ?_
                  ·
                   rintro b a w' ⟨v331,m19_,ha,Q_BK327,Q_HB,Q_HO332,Q_X19_⟩ hb_ hon hoff;refine ⟨_,rfl,fun K hK=>?_⟩;have e22:a.tmps[22]?=some (.slice A0 l0.length c0):=by rw [ha];exact (putSel_off rfl).trans rfl
                   replace ha:=mk0 ha;have BK327:=mk0 Q_BK327;have HB:=mk0 Q_HB;refine goes_ Try.func32 (by kernel_rfl) rfl #[.slice A0 l0.length c0,.int .i64 10] (by rfl) rfl rfl (by first|(simp only [List.map_toArray,List.map_cons,List.map_nil,Act.eval,Array.getD_eq_getD_getElem?,Option.getD_some,e22];done)|(simp only [List.map_toArray,List.map_cons,List.map_nil,Act.eval,Array.getD_eq_getD_getElem?,Option.getD_some,e22];rfl)) ?_;with_reducible refine (bellpulllaw05_code.calls k _ _ l0 10 t328 _ ?side1 ?side2 A4.out).mono ?_
                   (case side1=>repeat (first|exact (Kd.C_below HR0.out HB.out)|(with_reducible refine Kd.C_alloc ?_ _)|(with_reducible refine Kd.C_drewN ?_ _)|(with_reducible refine Kd.C_drew ?_)));(case side2=>exact HC0.out);rintro e w47 ⟨rfl,hb⟩;refine ⟨_,rfl,?_⟩;have n0_:=bkb BK327 hb;have n1_:=bst HB hb;have z_HO332:=fun (h0_:b 16=true)=>(show Kd.R (Kd.int .i64) 3 w47 w.heap.size (fun _=>True) v331 y330 from by first|exact (Kd.R_below (by (with_reducible repeat (first|apply Kd.R_alloc|apply Kd.R_drewN|apply Kd.R_drew));exact (Q_HO332 h0_)) hb)|exact Kd.R_mono (Kd.R_below (by (with_reducible repeat (first|apply Kd.R_alloc|apply Kd.R_drewN|apply Kd.R_drew));exact (Q_HO332 h0_)) hb) (fun _ h_=>by first|trivial|exact h_|exact h_.1))
                   clear BK327;clear HB;have BK327:=n0_;have HB:=n1_;clear n0_ n1_;(try clear hb);refine hK.out _ _ ⟨v331,m19_,(by rw [ha.out];exact putSel_upk 0 hb_ rfl rfl rfl),BK327.out,HB.out,z_HO332,fun h0_=>absurd ((hoff 19 (by kernel_rfl)).symm.trans h0_) (by decide)⟩
                  refine steps_cons ?_ ?_
                  ·
                   rintro b a w' ⟨v331,m19_,ha,Q_BK327,Q_HB,Q_HO332,Q_X19_⟩ hb_ hon hoff;refine ⟨_,rfl,fun K hK=>?_⟩;have e24:a.tmps[24]?=some (.slice A1 l1.length c1):=by rw [ha];exact (putSel_off rfl).trans rfl
                   replace ha:=mk0 ha;have BK327:=mk0 Q_BK327;have HB:=mk0 Q_HB;refine goes_ Try.func32 (by kernel_rfl) rfl #[.slice A1 l1.length c1,.int .i64 10] (by rfl) rfl rfl (by first|(simp only [List.map_toArray,List.map_cons,List.map_nil,Act.eval,Array.getD_eq_getD_getElem?,Option.getD_some,e24];done)|(simp only [List.map_toArray,List.map_cons,List.map_nil,Act.eval,Array.getD_eq_getD_getElem?,Option.getD_some,e24];rfl)) ?_;with_reducible refine (bellpulllaw05_code.calls k _ _ l1 10 t329 _ ?side1 ?side2 A5.out).mono ?_
                   (case side1=>repeat (first|exact (Kd.C_below HR1.out HB.out)|(with_reducible refine Kd.C_alloc ?_ _)|(with_reducible refine Kd.C_drewN ?_ _)|(with_reducible refine Kd.C_drew ?_)));(case side2=>exact HC1.out);rintro e w49 ⟨rfl,hb⟩;refine ⟨_,rfl,?_⟩;have n0_:=bkb BK327 hb;have n1_:=bst HB hb;have z_HO332:=fun (h0_:b 16=true)=>(show Kd.R (Kd.int .i64) 3 w49 w.heap.size (fun _=>True) v331 y330 from by first|exact (Kd.R_below (by (with_reducible repeat (first|apply Kd.R_alloc|apply Kd.R_drewN|apply Kd.R_drew));exact (Q_HO332 h0_)) hb)|exact Kd.R_mono (Kd.R_below (by (with_reducible repeat (first|apply Kd.R_alloc|apply Kd.R_drewN|apply Kd.R_drew));exact (Q_HO332 h0_)) hb) (fun _ h_=>by first|trivial|exact h_|exact h_.1))
                   clear BK327;clear HB;have BK327:=n0_;have HB:=n1_;clear n0_ n1_;(try clear hb);refine hK.out _ _ ⟨v331,m19_,(by rw [ha.out];exact putSel_upk 1 hb_ rfl rfl rfl),BK327.out,HB.out,z_HO332,fun h0_=>absurd ((hoff 19 (by kernel_rfl)).symm.trans h0_) (by decide)⟩
                  refine steps_cons ?_ ?_
                  ·
                   rintro b a w' ⟨v331,m19_,ha,Q_BK327,Q_HB,Q_HO332,Q_X19_⟩ hb_ hon hoff;refine ⟨_,rfl,fun K hK=>?_⟩;have e5:a.tmps[5]?=some (.pointer (some ⟨gb327,0,none⟩)):=by rw [ha];exact (putSel_off rfl).trans rfl
                   replace ha:=mk0 ha;have BK327:=mk0 Q_BK327;have HB:=mk0 Q_HB;refine value_ (w1:=w') (v:=.pointer (some ⟨gb327,0,none⟩)) (by rfl) rfl ?_ ?_
                   ·
                    go_simp;(try simp only [i64_w]);try rfl
                   refine hK.out _ _ ⟨v331,m19_,(by rw [ha.out];exact putSel_upk 2 hb_ rfl rfl rfl),Q_BK327,Q_HB,fun h0_=>absurd ((hoff 16 (by kernel_rfl)).symm.trans h0_) (by decide),fun h0_=>absurd ((hoff 19 (by kernel_rfl)).symm.trans h0_) (by decide)⟩
                  refine steps_cons ?_ ?_
                  ·
                   rintro b a w' ⟨v331,m19_,ha,Q_BK327,Q_HB,Q_HO332,Q_X19_⟩ hb_ hon hoff;refine ⟨_,rfl,fun K hK=>?_⟩;have e26:a.tmps[26]?=some (.pointer (some ⟨gb327,0,none⟩)):=by rw [ha];exact putSel_on (e:=(4,26,.pointer (some ⟨gb327,0,none⟩))) 2 rfl rfl (hon 4 (by kernel_rfl)) rfl
                   replace ha:=mk0 ha;have BK327:=mk0 Q_BK327;have HB:=mk0 Q_HB;have hc0_:w'.cell? ⟨gb327,0,none⟩=some (.int .u8 a2_0):=(blk_cell BK327.out 0).trans rfl;have hc1_:w'.cell? ⟨gb327,1,none⟩=some (.int .u8 a2_1):=(blk_cell BK327.out 1).trans rfl;have hc2_:w'.cell? ⟨gb327,2,none⟩=some (.int .u8 a2_2):=(blk_cell BK327.out 2).trans rfl;refine value_ (w1:=w') (v:=.int .u8 a2_0) (by rfl) rfl ?_ ?_
                   ·
                    go_simp;(try simp only [i64_w]);try rfl
                   refine hK.out _ _ ⟨v331,m19_,(by rw [ha.out];exact putSel_upk 3 hb_ rfl rfl rfl),Q_BK327,Q_HB,fun h0_=>absurd ((hoff 16 (by kernel_rfl)).symm.trans h0_) (by decide),fun h0_=>absurd ((hoff 19 (by kernel_rfl)).symm.trans h0_) (by decide)⟩
                  refine steps_cons ?_ ?_
                  ·
                   rintro b a w' ⟨v331,m19_,ha,Q_BK327,Q_HB,Q_HO332,Q_X19_⟩ hb_ hon hoff;refine ⟨_,rfl,fun K hK=>?_⟩;have e27:a.tmps[27]?=some (.int .u8 a2_0):=by rw [ha];exact putSel_on (e:=(5,27,.int .u8 a2_0)) 3 rfl rfl (hon 5 (by kernel_rfl)) rfl
                   replace ha:=mk0 ha;have BK327:=mk0 Q_BK327;have HB:=mk0 Q_HB;refine value_ (w1:=w') (v:=.int .i64 (wrap64 (a2_0))) (by rfl) rfl ?_ ?_
                   ·
                    go_simp;(try simp only [i64_w]);try rfl
                   refine hK.out _ _ ⟨v331,m19_,(by rw [ha.out];exact putSel_upk 4 hb_ rfl rfl rfl),Q_BK327,Q_HB,fun h0_=>absurd ((hoff 16 (by kernel_rfl)).symm.trans h0_) (by decide),fun h0_=>absurd ((hoff 19 (by kernel_rfl)).symm.trans h0_) (by decide)⟩
                  refine steps_cons ?_ ?_
                  ·
                   rintro b a w' ⟨v331,m19_,ha,Q_BK327,Q_HB,Q_HO332,Q_X19_⟩ hb_ hon hoff;refine ⟨_,rfl,fun K hK=>?_⟩;have e28:a.tmps[28]?=some (.int .i64 (wrap64 (a2_0))):=by rw [ha];exact putSel_on (e:=(6,28,.int .i64 (wrap64 (a2_0)))) 4 rfl rfl (hon 6 (by kernel_rfl)) rfl
                   replace ha:=mk0 ha;have BK327:=mk0 Q_BK327;have HB:=mk0 Q_HB;refine value_ (w1:=w') (v:=.int .i64 (Int.tmod (wrap64 (a2_0)) 5)) (by rfl) rfl ?_ ?_
                   ·
                    go_simp;(try simp only [i64_w]);try rfl
                   refine hK.out _ _ ⟨v331,m19_,(by rw [ha.out];exact putSel_upk 5 hb_ rfl rfl rfl),Q_BK327,Q_HB,fun h0_=>absurd ((hoff 16 (by kernel_rfl)).symm.trans h0_) (by decide),fun h0_=>absurd ((hoff 19 (by kernel_rfl)).symm.trans h0_) (by decide)⟩
                  refine steps_cons ?_ ?_
                  ·
                   rintro b a w' ⟨v331,m19_,ha,Q_BK327,Q_HB,Q_HO332,Q_X19_⟩ hb_ hon hoff;refine ⟨_,rfl,fun K hK=>?_⟩;have e5:a.tmps[5]?=some (.pointer (some ⟨gb327,0,none⟩)):=by rw [ha];exact (putSel_off rfl).trans rfl
                   replace ha:=mk0 ha;have BK327:=mk0 Q_BK327;have HB:=mk0 Q_HB;refine value_ (w1:=w') (v:=.pointer (some ⟨gb327,1,none⟩)) (by rfl) rfl ?_ ?_
                   ·
                    go_simp;(try simp only [i64_w]);try rfl
                   refine hK.out _ _ ⟨v331,m19_,(by rw [ha.out];exact putSel_upk 6 hb_ rfl rfl rfl),Q_BK327,Q_HB,fun h0_=>absurd ((hoff 16 (by kernel_rfl)).symm.trans h0_) (by decide),fun h0_=>absurd ((hoff 19 (by kernel_rfl)).symm.trans h0_) (by decide)⟩
                  refine steps_cons ?_ ?_
                  ·
                   rintro b a w' ⟨v331,m19_,ha,Q_BK327,Q_HB,Q_HO332,Q_X19_⟩ hb_ hon hoff;refine ⟨_,rfl,fun K hK=>?_⟩;have e30:a.tmps[30]?=some (.pointer (some ⟨gb327,1,none⟩)):=by rw [ha];exact putSel_on (e:=(8,30,.pointer (some ⟨gb327,1,none⟩))) 6 rfl rfl (hon 8 (by kernel_rfl)) rfl
                   replace ha:=mk0 ha;have BK327:=mk0 Q_BK327;have HB:=mk0 Q_HB;have hc0_:w'.cell? ⟨gb327,0,none⟩=some (.int .u8 a2_0):=(blk_cell BK327.out 0).trans rfl;have hc1_:w'.cell? ⟨gb327,1,none⟩=some (.int .u8 a2_1):=(blk_cell BK327.out 1).trans rfl;have hc2_:w'.cell? ⟨gb327,2,none⟩=some (.int .u8 a2_2):=(blk_cell BK327.out 2).trans rfl;refine value_ (w1:=w') (v:=.int .u8 a2_1) (by rfl) rfl ?_ ?_
                   ·
                    go_simp;(try simp only [i64_w]);try rfl
                   refine hK.out _ _ ⟨v331,m19_,(by rw [ha.out];exact putSel_upk 7 hb_ rfl rfl rfl),Q_BK327,Q_HB,fun h0_=>absurd ((hoff 16 (by kernel_rfl)).symm.trans h0_) (by decide),fun h0_=>absurd ((hoff 19 (by kernel_rfl)).symm.trans h0_) (by decide)⟩
                  refine steps_cons ?_ ?_
                  ·
                   rintro b a w' ⟨v331,m19_,ha,Q_BK327,Q_HB,Q_HO332,Q_X19_⟩ hb_ hon hoff;refine ⟨_,rfl,fun K hK=>?_⟩;have e31:a.tmps[31]?=some (.int .u8 a2_1):=by rw [ha];exact putSel_on (e:=(9,31,.int .u8 a2_1)) 7 rfl rfl (hon 9 (by kernel_rfl)) rfl
                   replace ha:=mk0 ha;have BK327:=mk0 Q_BK327;have HB:=mk0 Q_HB;refine value_ (w1:=w') (v:=.int .i64 (wrap64 (a2_1))) (by rfl) rfl ?_ ?_
                   ·
                    go_simp;(try simp only [i64_w]);try rfl
                   refine hK.out _ _ ⟨v331,m19_,(by rw [ha.out];exact putSel_upk 8 hb_ rfl rfl rfl),Q_BK327,Q_HB,fun h0_=>absurd ((hoff 16 (by kernel_rfl)).symm.trans h0_) (by decide),fun h0_=>absurd ((hoff 19 (by kernel_rfl)).symm.trans h0_) (by decide)⟩
                  refine steps_cons ?_ ?_
                  ·
                   rintro b a w' ⟨v331,m19_,ha,Q_BK327,Q_HB,Q_HO332,Q_X19_⟩ hb_ hon hoff;refine ⟨_,rfl,fun K hK=>?_⟩;have e32:a.tmps[32]?=some (.int .i64 (wrap64 (a2_1))):=by rw [ha];exact putSel_on (e:=(10,32,.int .i64 (wrap64 (a2_1)))) 8 rfl rfl (hon 10 (by kernel_rfl)) rfl
                   replace ha:=mk0 ha;have BK327:=mk0 Q_BK327;have HB:=mk0 Q_HB;refine value_ (w1:=w') (v:=.int .i64 (Int.tmod (wrap64 (a2_1)) 5)) (by rfl) rfl ?_ ?_
                   ·
                    go_simp;(try simp only [i64_w]);try rfl
                   refine hK.out _ _ ⟨v331,m19_,(by rw [ha.out];exact putSel_upk 9 hb_ rfl rfl rfl),Q_BK327,Q_HB,fun h0_=>absurd ((hoff 16 (by kernel_rfl)).symm.trans h0_) (by decide),fun h0_=>absurd ((hoff 19 (by kernel_rfl)).symm.trans h0_) (by decide)⟩
                  refine steps_cons ?_ ?_
                  ·
                   rintro b a w' ⟨v331,m19_,ha,Q_BK327,Q_HB,Q_HO332,Q_X19_⟩ hb_ hon hoff;refine ⟨_,rfl,fun K hK=>?_⟩;have e5:a.tmps[5]?=some (.pointer (some ⟨gb327,0,none⟩)):=by rw [ha];exact (putSel_off rfl).trans rfl
                   replace ha:=mk0 ha;have BK327:=mk0 Q_BK327;have HB:=mk0 Q_HB;refine value_ (w1:=w') (v:=.pointer (some ⟨gb327,2,none⟩)) (by rfl) rfl ?_ ?_
                   ·
                    go_simp;(try simp only [i64_w]);try rfl
                   refine hK.out _ _ ⟨v331,m19_,(by rw [ha.out];exact putSel_upk 10 hb_ rfl rfl rfl),Q_BK327,Q_HB,fun h0_=>absurd ((hoff 16 (by kernel_rfl)).symm.trans h0_) (by decide),fun h0_=>absurd ((hoff 19 (by kernel_rfl)).symm.trans h0_) (by decide)⟩
                  refine steps_cons ?_ ?_
                  ·
                   rintro b a w' ⟨v331,m19_,ha,Q_BK327,Q_HB,Q_HO332,Q_X19_⟩ hb_ hon hoff;refine ⟨_,rfl,fun K hK=>?_⟩;have e34:a.tmps[34]?=some (.pointer (some ⟨gb327,2,none⟩)):=by rw [ha];exact putSel_on (e:=(12,34,.pointer (some ⟨gb327,2,none⟩))) 10 rfl rfl (hon 12 (by kernel_rfl)) rfl
                   replace ha:=mk0 ha;have BK327:=mk0 Q_BK327;have HB:=mk0 Q_HB;have hc0_:w'.cell? ⟨gb327,0,none⟩=some (.int .u8 a2_0):=(blk_cell BK327.out 0).trans rfl;have hc1_:w'.cell? ⟨gb327,1,none⟩=some (.int .u8 a2_1):=(blk_cell BK327.out 1).trans rfl;have hc2_:w'.cell? ⟨gb327,2,none⟩=some (.int .u8 a2_2):=(blk_cell BK327.out 2).trans rfl;refine value_ (w1:=w') (v:=.int .u8 a2_2) (by rfl) rfl ?_ ?_
                   ·
                    go_simp;(try simp only [i64_w]);try rfl
                   refine hK.out _ _ ⟨v331,m19_,(by rw [ha.out];exact putSel_upk 11 hb_ rfl rfl rfl),Q_BK327,Q_HB,fun h0_=>absurd ((hoff 16 (by kernel_rfl)).symm.trans h0_) (by decide),fun h0_=>absurd ((hoff 19 (by kernel_rfl)).symm.trans h0_) (by decide)⟩
                  refine steps_cons ?_ ?_
                  ·
                   rintro b a w' ⟨v331,m19_,ha,Q_BK327,Q_HB,Q_HO332,Q_X19_⟩ hb_ hon hoff;refine ⟨_,rfl,fun K hK=>?_⟩;have e35:a.tmps[35]?=some (.int .u8 a2_2):=by rw [ha];exact putSel_on (e:=(13,35,.int .u8 a2_2)) 11 rfl rfl (hon 13 (by kernel_rfl)) rfl
                   replace ha:=mk0 ha;have BK327:=mk0 Q_BK327;have HB:=mk0 Q_HB;refine value_ (w1:=w') (v:=.int .i64 (wrap64 (a2_2))) (by rfl) rfl ?_ ?_
                   ·
                    go_simp;(try simp only [i64_w]);try rfl
                   refine hK.out _ _ ⟨v331,m19_,(by rw [ha.out];exact putSel_upk 12 hb_ rfl rfl rfl),Q_BK327,Q_HB,fun h0_=>absurd ((hoff 16 (by kernel_rfl)).symm.trans h0_) (by decide),fun h0_=>absurd ((hoff 19 (by kernel_rfl)).symm.trans h0_) (by decide)⟩
                  refine steps_cons ?_ ?_
                  ·
                   rintro b a w' ⟨v331,m19_,ha,Q_BK327,Q_HB,Q_HO332,Q_X19_⟩ hb_ hon hoff;refine ⟨_,rfl,fun K hK=>?_⟩;have e36:a.tmps[36]?=some (.int .i64 (wrap64 (a2_2))):=by rw [ha];exact putSel_on (e:=(14,36,.int .i64 (wrap64 (a2_2)))) 12 rfl rfl (hon 14 (by kernel_rfl)) rfl
                   replace ha:=mk0 ha;have BK327:=mk0 Q_BK327;have HB:=mk0 Q_HB;refine value_ (w1:=w') (v:=.int .i64 (Int.tmod (wrap64 (a2_2)) 5)) (by rfl) rfl ?_ ?_
                   ·
                    go_simp;(try simp only [i64_w]);try rfl
                   refine hK.out _ _ ⟨v331,m19_,(by rw [ha.out];exact putSel_upk 13 hb_ rfl rfl rfl),Q_BK327,Q_HB,fun h0_=>absurd ((hoff 16 (by kernel_rfl)).symm.trans h0_) (by decide),fun h0_=>absurd ((hoff 19 (by kernel_rfl)).symm.trans h0_) (by decide)⟩
                  refine steps_cons ?_ ?_
                  ·
                   rintro b a w' ⟨v331,m19_,ha,Q_BK327,Q_HB,Q_HO332,Q_X19_⟩ hb_ hon hoff;refine ⟨_,rfl,fun K hK=>?_⟩;have e29:a.tmps[29]?=some (.int .i64 (Int.tmod (wrap64 (a2_0)) 5)):=by rw [ha];exact putSel_on (e:=(7,29,.int .i64 (Int.tmod (wrap64 (a2_0)) 5))) 5 rfl rfl (hon 7 (by kernel_rfl)) rfl
                   have e33:a.tmps[33]?=some (.int .i64 (Int.tmod (wrap64 (a2_1)) 5)):=by rw [ha];exact putSel_on (e:=(11,33,.int .i64 (Int.tmod (wrap64 (a2_1)) 5))) 9 rfl rfl (hon 11 (by kernel_rfl)) rfl
                   have e37:a.tmps[37]?=some (.int .i64 (Int.tmod (wrap64 (a2_2)) 5)):=by rw [ha];exact putSel_on (e:=(15,37,.int .i64 (Int.tmod (wrap64 (a2_2)) 5))) 13 rfl rfl (hon 15 (by kernel_rfl)) rfl
                   replace ha:=mk0 ha;have BK327:=mk0 Q_BK327;have HB:=mk0 Q_HB;refine Kd.R_lit_step (Kd.int .i64) _ 3 ?hg (N:=38) ?hd (xs:=([Int.tmod (wrap64 (a2_0)) 5,Int.tmod (wrap64 (a2_1)) 5,Int.tmod (wrap64 (a2_2)) 5]:List Int)) (inner:=[.int .i64 (Int.tmod (wrap64 (a2_0)) 5),.int .i64 (Int.tmod (wrap64 (a2_1)) 5),.int .i64 (Int.tmod (wrap64 (a2_2)) 5)]) (ok:=fun _=>True) (okp:=fun _=>True) ?hr ?hp (fun _ hk=>hk) trivial (Below.refl _ _) (Nat.le_refl _) (by simp) ?_;(case hd=>rfl);(case hg=>rfl);(case hr=>first|(go_simp;done)|(go_simp;rfl));(case hp=>exact (Reps.one (show Kd.M (Kd.int .i64) _ _ _ (Int.tmod (wrap64 (a2_0)) 5) [.int .i64 (Int.tmod (wrap64 (a2_0)) 5)] from rfl) (Reps.one (show Kd.M (Kd.int .i64) _ _ _ (Int.tmod (wrap64 (a2_1)) 5) [.int .i64 (Int.tmod (wrap64 (a2_1)) 5)] from rfl) (Reps.one (show Kd.M (Kd.int .i64) _ _ _ (Int.tmod (wrap64 (a2_2)) 5) [.int .i64 (Int.tmod (wrap64 (a2_2)) 5)] from rfl) (Reps.none _ _)))));intro v331 w47 ho48 hb hg_ hnew_;clear hg_ hnew_;(first|rw [← Ny330.out] at ho48|(simp only [Int.reduceToNat] at ho48;rw [← Ny330.out] at ho48));have HO332:=mk0 (Kd.R_lower ho48 (below_size HB.out));replace BK327:=bkb BK327 hb;replace HB:=bst HB hb;clear hb ho48;refine hK.out _ _ ⟨v331,m19_,(by rw [ha.out];exact putSel_upk 14 hb_ rfl rfl rfl),BK327.out,HB.out,fun _=>HO332.out,fun h0_=>absurd ((hoff 19 (by kernel_rfl)).symm.trans h0_) (by decide)⟩
                  refine steps_cons ?_ ?_
                  ·
                   rintro b a w' ⟨v331,m19_,ha,Q_BK327,Q_HB,Q_HO332,Q_X19_⟩ hb_ hon hoff;refine ⟨_,rfl,fun K hK=>?_⟩;have e23:a.tmps[23]?=some (.string t328):=by rw [ha];exact putSel_on (e:=(1,23,.string t328)) 0 rfl rfl (hon 1 (by kernel_rfl)) rfl
                   replace ha:=mk0 ha;have BK327:=mk0 Q_BK327;have HB:=mk0 Q_HB;refine value_ (w1:=w') (v:=.string t328) (by rfl) rfl ?_ ?_
                   ·
                    go_simp;(try simp only [i64_w]);try rfl
                   refine hK.out _ _ ⟨v331,m19_,(by rw [ha.out];exact putSel_upk 15 hb_ rfl rfl rfl),Q_BK327,Q_HB,Q_HO332,fun h0_=>absurd ((hoff 19 (by kernel_rfl)).symm.trans h0_) (by decide)⟩
                  refine steps_cons ?_ ?_
                  ·
                   rintro b a w' ⟨v331,m19_,ha,Q_BK327,Q_HB,Q_HO332,Q_X19_⟩ hb_ hon hoff;refine ⟨_,rfl,fun K hK=>?_⟩;have e25:a.tmps[25]?=some (.string t329):=by rw [ha];exact putSel_on (e:=(3,25,.string t329)) 1 rfl rfl (hon 3 (by kernel_rfl)) rfl
                   replace ha:=mk0 ha;have BK327:=mk0 Q_BK327;have HB:=mk0 Q_HB;refine value_ (w1:=w') (v:=.string t329) (by rfl) rfl ?_ ?_
                   ·
                    go_simp;(try simp only [i64_w]);try rfl
                   refine hK.out _ _ ⟨v331,m19_,(by rw [ha.out];exact putSel_upk 16 hb_ rfl rfl rfl),Q_BK327,Q_HB,Q_HO332,fun h0_=>absurd ((hoff 19 (by kernel_rfl)).symm.trans h0_) (by decide)⟩
                  refine steps_cons ?_ ?_
                  ·
                   rintro b a w' ⟨v331,m19_,ha,Q_BK327,Q_HB,Q_HO332,Q_X19_⟩ hb_ hon hoff;refine ⟨_,rfl,fun K hK=>?_⟩;have e38:a.tmps[38]?=some (v331):=by rw [ha];exact putSel_on (e:=(16,38,v331)) 14 rfl rfl (hon 16 (by kernel_rfl)) rfl
                   replace ha:=mk0 ha;have BK327:=mk0 Q_BK327;have HB:=mk0 Q_HB;have HO332:=mk0 (Q_HO332 (hon 16 (by kernel_rfl)));refine value_ (w1:=w') (v:=v331) (by rfl) rfl ?_ ?_
                   ·
                    go_simp;(try simp only [i64_w]);try rfl
                   refine hK.out _ _ ⟨v331,(v331),(by rw [ha.out];exact putSel_upk 17 hb_ rfl rfl rfl),Q_BK327,Q_HB,Q_HO332,fun _=>rfl⟩
                  exact steps_nil
                 rintro b a w51 hall ⟨v331,m19_,ha,Q_BK327,Q_HB,Q_HO332,Q_X19_⟩;clear BK327 HB;have hb1_:=hall 1 (by kernel_rfl);have hb3_:=hall 3 (by kernel_rfl);have hb4_:=hall 4 (by kernel_rfl);have hb5_:=hall 5 (by kernel_rfl);have hb6_:=hall 6 (by kernel_rfl);have hb7_:=hall 7 (by kernel_rfl);have hb8_:=hall 8 (by kernel_rfl);have hb9_:=hall 9 (by kernel_rfl);have hb10_:=hall 10 (by kernel_rfl);have hb11_:=hall 11 (by kernel_rfl);have hb12_:=hall 12 (by kernel_rfl);have hb13_:=hall 13 (by kernel_rfl);have hb14_:=hall 14 (by kernel_rfl);have hb15_:=hall 15 (by kernel_rfl);have hb16_:=hall 16 (by kernel_rfl);have hb17_:=hall 17 (by kernel_rfl);have hb18_:=hall 18 (by kernel_rfl);have hb19_:=hall 19 (by kernel_rfl);subst ha;obtain rfl:=Q_X19_ hb19_;simp only [putSel,hb1_,hb3_,hb4_,hb5_,hb6_,hb7_,hb8_,hb9_,hb10_,hb11_,hb12_,hb13_,hb14_,hb15_,hb16_,hb17_,hb18_,hb19_,if_true,Act.put,List.setIfInBounds_toArray,List.set_cons_zero,List.set_cons_succ];have BK327:=mk0 Q_BK327;clear Q_BK327;have HB:=mk0 Q_HB;clear Q_HB;have HO332:=mk0 (Q_HO332 hb16_);clear Q_HO332;clear hall hb1_ hb3_ hb4_ hb5_ hb6_ hb7_ hb8_ hb9_ hb10_ hb11_ hb12_ hb13_ hb14_ hb15_ hb16_ hb17_ hb18_ hb19_;obtain ⟨Ao52,co52,eo52⟩:=Kd.R_slice HO332.out;subst eo52;try go_wp2_with (first|((with_reducible refine gate_callee (f:=26) rfl ?_);refine goesL_ (some 45) rfl rfl Try.func26 (by kernel_rfl) rfl #[.string ((t328 ++ t329) ++ (⟨#[46]⟩:ByteArray)),.slice Ao52 y330.length co52] rfl (by (try simp only [List.map_toArray,List.map_cons,List.map_nil]);first|done|rfl|(simp only [List.length_drop,List.length_take];rfl)) ?_;(with_reducible refine (count_Accepts.calls k ((t328 ++ t329) ++ (⟨#[46]⟩:ByteArray)) _ _ y330 true t334 _ ?side1 ?side2 A8.out).mono ?_);(case side1=>repeat (first|exact (Kd.R_reads' HO332.out).2.2|(with_reducible refine Kd.C_alloc ?_ _)|(with_reducible refine Kd.C_drewN ?_ _)|(with_reducible refine Kd.C_drew ?_)));(case side2=>exact (Kd.R_reads' HO332.out).2.1);rintro e w53 ⟨rfl,hb⟩;refine ⟨_,rfl,?_⟩;replace HO332:=rbl HO332 hb;replace BK327:=bkb BK327 hb;replace HB:=bst HB hb;(try clear hb))|((with_reducible refine gate_callee (f:=26) rfl ?_);refine goesL_ (some 54) rfl rfl Try.func26 (by kernel_rfl) rfl #[.string ((t329 ++ t328) ++ (⟨#[46]⟩:ByteArray)),.slice Ao52 y330.length co52] rfl (by (try simp only [List.map_toArray,List.map_cons,List.map_nil]);first|done|rfl|(simp only [List.length_drop,List.length_take];rfl)) ?_;(with_reducible refine (count_Accepts.calls k ((t329 ++ t328) ++ (⟨#[46]⟩:ByteArray)) _ _ y330 true t336 _ ?side1 ?side2 A11.out).mono ?_);(case side1=>repeat (first|exact (Kd.R_reads' HO332.out).2.2|(with_reducible refine Kd.C_alloc ?_ _)|(with_reducible refine Kd.C_drewN ?_ _)|(with_reducible refine Kd.C_drew ?_)));(case side2=>exact (Kd.R_reads' HO332.out).2.1);rintro e w54 ⟨rfl,hb⟩;refine ⟨_,rfl,?_⟩;replace HO332:=rbl HO332 hb;replace BK327:=bkb BK327 hb;replace HB:=bst HB hb;(try clear hb))|((with_reducible refine gate_callee (f:=26) rfl ?_);refine goesL_ (some 63) rfl rfl Try.func26 (by kernel_rfl) rfl #[.string ((t328 ++ t329) ++ (⟨#[43]⟩:ByteArray)),.slice Ao52 y330.length co52] rfl (by (try simp only [List.map_toArray,List.map_cons,List.map_nil]);first|done|rfl|(simp only [List.length_drop,List.length_take];rfl)) ?_;(with_reducible refine (count_Accepts.calls k ((t328 ++ t329) ++ (⟨#[43]⟩:ByteArray)) _ _ y330 true t338 _ ?side1 ?side2 A12.out).mono ?_);(case side1=>repeat (first|exact (Kd.R_reads' HO332.out).2.2|(with_reducible refine Kd.C_alloc ?_ _)|(with_reducible refine Kd.C_drewN ?_ _)|(with_reducible refine Kd.C_drew ?_)));(case side2=>exact (Kd.R_reads' HO332.out).2.1);rintro e w55 ⟨rfl,hb⟩;refine ⟨_,rfl,?_⟩;replace HO332:=rbl HO332 hb;replace BK327:=bkb BK327 hb;replace HB:=bst HB hb;(try clear hb))|((with_reducible refine gate_callee (f:=26) rfl ?_);refine goesL_ (some 72) rfl rfl Try.func26 (by kernel_rfl) rfl #[.string ((t329 ++ t328) ++ (⟨#[43]⟩:ByteArray)),.slice Ao52 y330.length co52] rfl (by (try simp only [List.map_toArray,List.map_cons,List.map_nil]);first|done|rfl|(simp only [List.length_drop,List.length_take];rfl)) ?_;(with_reducible refine (count_Accepts.calls k ((t329 ++ t328) ++ (⟨#[43]⟩:ByteArray)) _ _ y330 true t340 _ ?side1 ?side2 A13.out).mono ?_);(case side1=>repeat (first|exact (Kd.R_reads' HO332.out).2.2|(with_reducible refine Kd.C_alloc ?_ _)|(with_reducible refine Kd.C_drewN ?_ _)|(with_reducible refine Kd.C_drew ?_)));(case side2=>exact (Kd.R_reads' HO332.out).2.1);rintro e w56 ⟨rfl,hb⟩;refine ⟨_,rfl,?_⟩;replace HO332:=rbl HO332 hb;replace BK327:=bkb BK327 hb;replace HB:=bst HB hb;(try clear hb))|((with_reducible refine gate_callee (f:=26) rfl ?_);refine goesL_ (some 78) rfl rfl Try.func26 (by kernel_rfl) rfl #[.string t328,.slice Ao52 y330.length co52] rfl (by (try simp only [List.map_toArray,List.map_cons,List.map_nil]);first|done|rfl|(simp only [List.length_drop,List.length_take];rfl)) ?_;(with_reducible refine (count_Accepts.calls k t328 _ _ y330 false t342 _ ?side1 ?side2 A14.out).mono ?_);(case side1=>repeat (first|exact (Kd.R_reads' HO332.out).2.2|(with_reducible refine Kd.C_alloc ?_ _)|(with_reducible refine Kd.C_drewN ?_ _)|(with_reducible refine Kd.C_drew ?_)));(case side2=>exact (Kd.R_reads' HO332.out).2.1);rintro e w57 ⟨rfl,hb⟩;refine ⟨_,rfl,?_⟩;replace HO332:=rbl HO332 hb;replace BK327:=bkb BK327 hb;replace HB:=bst HB hb;(try clear hb))|((with_reducible refine gate_callee (f:=26) rfl ?_);refine goesL_ (some 84) rfl rfl Try.func26 (by kernel_rfl) rfl #[.string t329,.slice Ao52 y330.length co52] rfl (by (try simp only [List.map_toArray,List.map_cons,List.map_nil]);first|done|rfl|(simp only [List.length_drop,List.length_take];rfl)) ?_;(with_reducible refine (count_Accepts.calls k t329 _ _ y330 true t344 _ ?side1 ?side2 A15.out).mono ?_);(case side1=>repeat (first|exact (Kd.R_reads' HO332.out).2.2|(with_reducible refine Kd.C_alloc ?_ _)|(with_reducible refine Kd.C_drewN ?_ _)|(with_reducible refine Kd.C_drew ?_)));(case side2=>exact (Kd.R_reads' HO332.out).2.1);rintro e w58 ⟨rfl,hb⟩;refine ⟨_,rfl,?_⟩;replace HO332:=rbl HO332 hb;replace BK327:=bkb BK327 hb;replace HB:=bst HB hb;(try clear hb))|(go_at_call 22;(with_reducible refine (bellpulllaw05_lives.calls k  t346 _ A44.out).mono ?_);rintro e w59 ⟨rfl,hb⟩;replace HO332:=rbl HO332 hb;replace BK327:=bkb BK327 hb;replace HB:=bst HB hb;(try clear hb)))
                 go_ret;exact ⟨by first|rfl|(simp [errW_none,errW_some] <;> rfl)|(simp [*,errW_none,errW_some] <;> rfl),by repeat (first|(with_reducible first|exact HB.out|apply below_alloc|apply pw_below_drewN|apply below_drew1|refine below_set ?_ GE327.out)|exact HB.out)⟩
                ·
                 replace c43:=Bool.eq_false_iff.mpr c43;subst c43;have H1:(none)=some r:=by rw [if_neg (show ¬ (false=true) by decide)] at H;exact H
                 clear H;have H:=H1;clear H1;exact absurd H (by simp)
              ·
               replace c25:=Bool.eq_false_iff.mpr c25;subst c25;have H1:(none)=some r:=by rw [if_neg (show ¬ (false=true) by decide)] at H;exact H
               clear H;have H:=H1;clear H1;exact absurd H (by simp)
             ·
              replace c24:=Bool.eq_false_iff.mpr c24;subst c24;have H1:(if t339=true then (none) else (if t341=true then (none) else (if t343=true then (none) else ((bellpulllaw05_lives.f k).bind fun t347=>(some t347)))))=some r:=by rw [if_neg (show ¬ (false=true) by decide)] at H;exact H
              clear H;have H:=H1;clear H1
              by_cases c60:t339=true
              ·
               subst c60;have H1:(none)=some r:=by rw [if_pos rfl] at H;exact H
               clear H;have H:=H1;clear H1;exact absurd H (by simp)
              ·
               replace c60:=Bool.eq_false_iff.mpr c60;subst c60;have H1:(if t341=true then (none) else (if t343=true then (none) else ((bellpulllaw05_lives.f k).bind fun t347=>(some t347))))=some r:=by rw [if_neg (show ¬ (false=true) by decide)] at H;exact H
               clear H;have H:=H1;clear H1
               by_cases c61:t341=true
               ·
                subst c61;have H1:(none)=some r:=by rw [if_pos rfl] at H;exact H
                clear H;have H:=H1;clear H1;exact absurd H (by simp)
               ·
                replace c61:=Bool.eq_false_iff.mpr c61;subst c61;have H1:(if t343=true then (none) else ((bellpulllaw05_lives.f k).bind fun t347=>(some t347)))=some r:=by rw [if_neg (show ¬ (false=true) by decide)] at H;exact H
                clear H;have H:=H1;clear H1
                by_cases c62:t343=true
                ·
                 subst c62;have H1:(none)=some r:=by rw [if_pos rfl] at H;exact H
                 clear H;have H:=H1;clear H1;exact absurd H (by simp)
                ·
                 replace c62:=Bool.eq_false_iff.mpr c62;subst c62;have H1:((bellpulllaw05_lives.f k).bind fun t347=>(some t347))=some r:=by rw [if_neg (show ¬ (false=true) by decide)] at H;exact H
                 clear H;have H:=H1;clear H1;replace H:=Option.bind_eq_some_iff.mp H;obtain ⟨t347,A630,H⟩:=H;(try dsimp only at H);have A63:=mk0 A630;clear A630;obtain rfl:=Option.some.inj H;go_enter Try.func9,Try.ntmps9;try go_wp2_with (first|((with_reducible refine gate_dst (N:=5) rfl ?_);refine box_event ?hg (N:=5) ?hd (cs:=#[.int .u8 a2_0,.int .u8 a2_1,.int .u8 a2_2]) (t:=51) ?hr ?_;(case hd=>rfl);(case hg=>rfl);(case hr=>first|(go_simp;done)|(go_simp;rfl));intro gb327 hg w64 hbox hb;have BK327:=mk0 (hbox);have GW327:=szw hg HB;have GE327:=GW327;replace HB:=bst HB hb;clear hb hbox hg))
                 replace BK327:=bdr BK327;replace HB:=hdr HB;refine start_ (n:=20) (S:=fun w'=>True) (ds:=[]) #[false,false,false,false,false,false,false,false,false,false,false,false,false,false,false,false,false,false,false,false] (by kernel_rfl) rfl rfl trivial (fun hHeld=>?_);refine with_tabW bellpulllaw05_CountCommutes.tab1 bellpulllaw05_CountCommutes.bits1 (fun HT_ HW_=>?_);generalize w64.drew=w65 at BK327 HB hHeld ⊢;refine pure_ (i:=0) (N:=some 22) (v:=?_) (a':=?_) #[true,false,false,false,false,false,false,false,false,false,false,false,false,false,false,false,false,false,false,false] rfl rfl (any_of HT_.out (by kernel_rfl)) (fun _ _ _ h=>h) (Or.inl ⟨by rfl,?_⟩) ?_ ?_;rotate_left
                 ·
                  intro w';go_simp;with_reducible rfl
                 rotate_left
                 ·
                  simp only [Act.put,List.setIfInBounds_toArray,List.set_cons_zero,List.set_cons_succ,i64_w,i32_w];rfl
                 refine pure_ (i:=2) (N:=some 24) (v:=?_) (a':=?_) #[true,false,true,false,false,false,false,false,false,false,false,false,false,false,false,false,false,false,false,false] rfl rfl (any_of HT_.out (by kernel_rfl)) (fun _ _ _ h=>h) (Or.inl ⟨by rfl,?_⟩) ?_ ?_;rotate_left
                 ·
                  intro w';go_simp;with_reducible rfl
                 rotate_left
                 ·
                  simp only [Act.put,List.setIfInBounds_toArray,List.set_cons_zero,List.set_cons_succ,i64_w,i32_w];rfl
                 refine inv_at [1,3,4,5,6,7,8,9,10,11,12,13,14,15,16,17,18,19] (fun a0_ b a w'=>∃ (v331:Value) (m19_:Value),a=putSel a0_ b [(1,23,.string t328),(3,25,.string t329),(4,26,.pointer (some ⟨gb327,0,none⟩)),(5,27,.int .u8 a2_0),(6,28,.int .i64 (wrap64 (a2_0))),(7,29,.int .i64 (Int.tmod (wrap64 (a2_0)) 5)),(8,30,.pointer (some ⟨gb327,1,none⟩)),(9,31,.int .u8 a2_1),(10,32,.int .i64 (wrap64 (a2_1))),(11,33,.int .i64 (Int.tmod (wrap64 (a2_1)) 5)),(12,34,.pointer (some ⟨gb327,2,none⟩)),(13,35,.int .u8 a2_2),(14,36,.int .i64 (wrap64 (a2_2))),(15,37,.int .i64 (Int.tmod (wrap64 (a2_2)) 5)),(16,38,v331),(17,7,.string t328),(18,8,.string t329),(19,9,m19_)]∧(w'.heap[gb327]?=some (.cells #[.int .u8 a2_0,.int .u8 a2_1,.int .u8 a2_2] 51 (0,0)))∧(Below w.heap.size w w')∧(b 16=true → Kd.R (Kd.int .i64) 3 w' w.heap.size (fun _=>True) v331 y330)∧(b 19=true → (m19_:Value)=v331)) HT_.out HW_.out (by kernel_rfl) (by kernel_rfl) ?_ ?_ ?_
                 ·
                  exact ⟨.bool false,.bool false,by simp only [putSel,Bool.false_eq_true,if_false],BK327.out,HB.out,fun h_=>absurd h_ (by decide),fun h_=>absurd h_ (by decide)⟩
                 ·
                  skip
                  clear BK327 HB;refine steps_cons ?_ ?_
                  ·
                   rintro b a w' ⟨v331,m19_,ha,Q_BK327,Q_HB,Q_HO332,Q_X19_⟩ hb_ hon hoff;refine ⟨_,rfl,fun K hK=>?_⟩;have e22:a.tmps[22]?=some (.slice A0 l0.length c0):=by rw [ha];exact (putSel_off rfl).trans rfl
                   replace ha:=mk0 ha;have BK327:=mk0 Q_BK327;have HB:=mk0 Q_HB;refine goes_ Try.func32 (by kernel_rfl) rfl #[.slice A0 l0.length c0,.int .i64 10] (by rfl) rfl rfl (by first|(simp only [List.map_toArray,List.map_cons,List.map_nil,Act.eval,Array.getD_eq_getD_getElem?,Option.getD_some,e22];done)|(simp only [List.map_toArray,List.map_cons,List.map_nil,Act.eval,Array.getD_eq_getD_getElem?,Option.getD_some,e22];rfl)) ?_;with_reducible refine (bellpulllaw05_code.calls k _ _ l0 10 t328 _ ?side1 ?side2 A4.out).mono ?_
                   (case side1=>repeat (first|exact (Kd.C_below HR0.out HB.out)|(with_reducible refine Kd.C_alloc ?_ _)|(with_reducible refine Kd.C_drewN ?_ _)|(with_reducible refine Kd.C_drew ?_)));(case side2=>exact HC0.out);rintro e w66 ⟨rfl,hb⟩;refine ⟨_,rfl,?_⟩;have n0_:=bkb BK327 hb;have n1_:=bst HB hb;have z_HO332:=fun (h0_:b 16=true)=>(show Kd.R (Kd.int .i64) 3 w66 w.heap.size (fun _=>True) v331 y330 from by first|exact (Kd.R_below (by (with_reducible repeat (first|apply Kd.R_alloc|apply Kd.R_drewN|apply Kd.R_drew));exact (Q_HO332 h0_)) hb)|exact Kd.R_mono (Kd.R_below (by (with_reducible repeat (first|apply Kd.R_alloc|apply Kd.R_drewN|apply Kd.R_drew));exact (Q_HO332 h0_)) hb) (fun _ h_=>by first|trivial|exact h_|exact h_.1))
                   clear BK327;clear HB;have BK327:=n0_;have HB:=n1_;clear n0_ n1_;(try clear hb);refine hK.out _ _ ⟨v331,m19_,(by rw [ha.out];exact putSel_upk 0 hb_ rfl rfl rfl),BK327.out,HB.out,z_HO332,fun h0_=>absurd ((hoff 19 (by kernel_rfl)).symm.trans h0_) (by decide)⟩
                  refine steps_cons ?_ ?_
                  ·
                   rintro b a w' ⟨v331,m19_,ha,Q_BK327,Q_HB,Q_HO332,Q_X19_⟩ hb_ hon hoff;refine ⟨_,rfl,fun K hK=>?_⟩;have e24:a.tmps[24]?=some (.slice A1 l1.length c1):=by rw [ha];exact (putSel_off rfl).trans rfl
                   replace ha:=mk0 ha;have BK327:=mk0 Q_BK327;have HB:=mk0 Q_HB;refine goes_ Try.func32 (by kernel_rfl) rfl #[.slice A1 l1.length c1,.int .i64 10] (by rfl) rfl rfl (by first|(simp only [List.map_toArray,List.map_cons,List.map_nil,Act.eval,Array.getD_eq_getD_getElem?,Option.getD_some,e24];done)|(simp only [List.map_toArray,List.map_cons,List.map_nil,Act.eval,Array.getD_eq_getD_getElem?,Option.getD_some,e24];rfl)) ?_;with_reducible refine (bellpulllaw05_code.calls k _ _ l1 10 t329 _ ?side1 ?side2 A5.out).mono ?_
                   (case side1=>repeat (first|exact (Kd.C_below HR1.out HB.out)|(with_reducible refine Kd.C_alloc ?_ _)|(with_reducible refine Kd.C_drewN ?_ _)|(with_reducible refine Kd.C_drew ?_)));(case side2=>exact HC1.out);rintro e w68 ⟨rfl,hb⟩;refine ⟨_,rfl,?_⟩;have n0_:=bkb BK327 hb;have n1_:=bst HB hb;have z_HO332:=fun (h0_:b 16=true)=>(show Kd.R (Kd.int .i64) 3 w68 w.heap.size (fun _=>True) v331 y330 from by first|exact (Kd.R_below (by (with_reducible repeat (first|apply Kd.R_alloc|apply Kd.R_drewN|apply Kd.R_drew));exact (Q_HO332 h0_)) hb)|exact Kd.R_mono (Kd.R_below (by (with_reducible repeat (first|apply Kd.R_alloc|apply Kd.R_drewN|apply Kd.R_drew));exact (Q_HO332 h0_)) hb) (fun _ h_=>by first|trivial|exact h_|exact h_.1))
                   clear BK327;clear HB;have BK327:=n0_;have HB:=n1_;clear n0_ n1_;(try clear hb);refine hK.out _ _ ⟨v331,m19_,(by rw [ha.out];exact putSel_upk 1 hb_ rfl rfl rfl),BK327.out,HB.out,z_HO332,fun h0_=>absurd ((hoff 19 (by kernel_rfl)).symm.trans h0_) (by decide)⟩
                  refine steps_cons ?_ ?_
                  ·
                   rintro b a w' ⟨v331,m19_,ha,Q_BK327,Q_HB,Q_HO332,Q_X19_⟩ hb_ hon hoff;refine ⟨_,rfl,fun K hK=>?_⟩;have e5:a.tmps[5]?=some (.pointer (some ⟨gb327,0,none⟩)):=by rw [ha];exact (putSel_off rfl).trans rfl
                   replace ha:=mk0 ha;have BK327:=mk0 Q_BK327;have HB:=mk0 Q_HB;refine value_ (w1:=w') (v:=.pointer (some ⟨gb327,0,none⟩)) (by rfl) rfl ?_ ?_
                   ·
                    go_simp;(try simp only [i64_w]);try rfl
                   refine hK.out _ _ ⟨v331,m19_,(by rw [ha.out];exact putSel_upk 2 hb_ rfl rfl rfl),Q_BK327,Q_HB,fun h0_=>absurd ((hoff 16 (by kernel_rfl)).symm.trans h0_) (by decide),fun h0_=>absurd ((hoff 19 (by kernel_rfl)).symm.trans h0_) (by decide)⟩
                  refine steps_cons ?_ ?_
                  ·
                   rintro b a w' ⟨v331,m19_,ha,Q_BK327,Q_HB,Q_HO332,Q_X19_⟩ hb_ hon hoff;refine ⟨_,rfl,fun K hK=>?_⟩;have e26:a.tmps[26]?=some (.pointer (some ⟨gb327,0,none⟩)):=by rw [ha];exact putSel_on (e:=(4,26,.pointer (some ⟨gb327,0,none⟩))) 2 rfl rfl (hon 4 (by kernel_rfl)) rfl
                   replace ha:=mk0 ha;have BK327:=mk0 Q_BK327;have HB:=mk0 Q_HB;have hc0_:w'.cell? ⟨gb327,0,none⟩=some (.int .u8 a2_0):=(blk_cell BK327.out 0).trans rfl;have hc1_:w'.cell? ⟨gb327,1,none⟩=some (.int .u8 a2_1):=(blk_cell BK327.out 1).trans rfl;have hc2_:w'.cell? ⟨gb327,2,none⟩=some (.int .u8 a2_2):=(blk_cell BK327.out 2).trans rfl;refine value_ (w1:=w') (v:=.int .u8 a2_0) (by rfl) rfl ?_ ?_
                   ·
                    go_simp;(try simp only [i64_w]);try rfl
                   refine hK.out _ _ ⟨v331,m19_,(by rw [ha.out];exact putSel_upk 3 hb_ rfl rfl rfl),Q_BK327,Q_HB,fun h0_=>absurd ((hoff 16 (by kernel_rfl)).symm.trans h0_) (by decide),fun h0_=>absurd ((hoff 19 (by kernel_rfl)).symm.trans h0_) (by decide)⟩
                  refine steps_cons ?_ ?_
                  ·
                   rintro b a w' ⟨v331,m19_,ha,Q_BK327,Q_HB,Q_HO332,Q_X19_⟩ hb_ hon hoff;refine ⟨_,rfl,fun K hK=>?_⟩;have e27:a.tmps[27]?=some (.int .u8 a2_0):=by rw [ha];exact putSel_on (e:=(5,27,.int .u8 a2_0)) 3 rfl rfl (hon 5 (by kernel_rfl)) rfl
                   replace ha:=mk0 ha;have BK327:=mk0 Q_BK327;have HB:=mk0 Q_HB;refine value_ (w1:=w') (v:=.int .i64 (wrap64 (a2_0))) (by rfl) rfl ?_ ?_
                   ·
                    go_simp;(try simp only [i64_w]);try rfl
                   refine hK.out _ _ ⟨v331,m19_,(by rw [ha.out];exact putSel_upk 4 hb_ rfl rfl rfl),Q_BK327,Q_HB,fun h0_=>absurd ((hoff 16 (by kernel_rfl)).symm.trans h0_) (by decide),fun h0_=>absurd ((hoff 19 (by kernel_rfl)).symm.trans h0_) (by decide)⟩
                  refine steps_cons ?_ ?_
                  ·
                   rintro b a w' ⟨v331,m19_,ha,Q_BK327,Q_HB,Q_HO332,Q_X19_⟩ hb_ hon hoff;refine ⟨_,rfl,fun K hK=>?_⟩;have e28:a.tmps[28]?=some (.int .i64 (wrap64 (a2_0))):=by rw [ha];exact putSel_on (e:=(6,28,.int .i64 (wrap64 (a2_0)))) 4 rfl rfl (hon 6 (by kernel_rfl)) rfl
                   replace ha:=mk0 ha;have BK327:=mk0 Q_BK327;have HB:=mk0 Q_HB;refine value_ (w1:=w') (v:=.int .i64 (Int.tmod (wrap64 (a2_0)) 5)) (by rfl) rfl ?_ ?_
                   ·
                    go_simp;(try simp only [i64_w]);try rfl
                   refine hK.out _ _ ⟨v331,m19_,(by rw [ha.out];exact putSel_upk 5 hb_ rfl rfl rfl),Q_BK327,Q_HB,fun h0_=>absurd ((hoff 16 (by kernel_rfl)).symm.trans h0_) (by decide),fun h0_=>absurd ((hoff 19 (by kernel_rfl)).symm.trans h0_) (by decide)⟩
                  refine steps_cons ?_ ?_
                  ·
                   rintro b a w' ⟨v331,m19_,ha,Q_BK327,Q_HB,Q_HO332,Q_X19_⟩ hb_ hon hoff;refine ⟨_,rfl,fun K hK=>?_⟩;have e5:a.tmps[5]?=some (.pointer (some ⟨gb327,0,none⟩)):=by rw [ha];exact (putSel_off rfl).trans rfl
                   replace ha:=mk0 ha;have BK327:=mk0 Q_BK327;have HB:=mk0 Q_HB;refine value_ (w1:=w') (v:=.pointer (some ⟨gb327,1,none⟩)) (by rfl) rfl ?_ ?_
                   ·
                    go_simp;(try simp only [i64_w]);try rfl
                   refine hK.out _ _ ⟨v331,m19_,(by rw [ha.out];exact putSel_upk 6 hb_ rfl rfl rfl),Q_BK327,Q_HB,fun h0_=>absurd ((hoff 16 (by kernel_rfl)).symm.trans h0_) (by decide),fun h0_=>absurd ((hoff 19 (by kernel_rfl)).symm.trans h0_) (by decide)⟩
                  refine steps_cons ?_ ?_
                  ·
                   rintro b a w' ⟨v331,m19_,ha,Q_BK327,Q_HB,Q_HO332,Q_X19_⟩ hb_ hon hoff;refine ⟨_,rfl,fun K hK=>?_⟩;have e30:a.tmps[30]?=some (.pointer (some ⟨gb327,1,none⟩)):=by rw [ha];exact putSel_on (e:=(8,30,.pointer (some ⟨gb327,1,none⟩))) 6 rfl rfl (hon 8 (by kernel_rfl)) rfl
                   replace ha:=mk0 ha;have BK327:=mk0 Q_BK327;have HB:=mk0 Q_HB;have hc0_:w'.cell? ⟨gb327,0,none⟩=some (.int .u8 a2_0):=(blk_cell BK327.out 0).trans rfl;have hc1_:w'.cell? ⟨gb327,1,none⟩=some (.int .u8 a2_1):=(blk_cell BK327.out 1).trans rfl;have hc2_:w'.cell? ⟨gb327,2,none⟩=some (.int .u8 a2_2):=(blk_cell BK327.out 2).trans rfl;refine value_ (w1:=w') (v:=.int .u8 a2_1) (by rfl) rfl ?_ ?_
                   ·
                    go_simp;(try simp only [i64_w]);try rfl
                   refine hK.out _ _ ⟨v331,m19_,(by rw [ha.out];exact putSel_upk 7 hb_ rfl rfl rfl),Q_BK327,Q_HB,fun h0_=>absurd ((hoff 16 (by kernel_rfl)).symm.trans h0_) (by decide),fun h0_=>absurd ((hoff 19 (by kernel_rfl)).symm.trans h0_) (by decide)⟩
                  refine steps_cons ?_ ?_
                  ·
                   rintro b a w' ⟨v331,m19_,ha,Q_BK327,Q_HB,Q_HO332,Q_X19_⟩ hb_ hon hoff;refine ⟨_,rfl,fun K hK=>?_⟩;have e31:a.tmps[31]?=some (.int .u8 a2_1):=by rw [ha];exact putSel_on (e:=(9,31,.int .u8 a2_1)) 7 rfl rfl (hon 9 (by kernel_rfl)) rfl
                   replace ha:=mk0 ha;have BK327:=mk0 Q_BK327;have HB:=mk0 Q_HB;refine value_ (w1:=w') (v:=.int .i64 (wrap64 (a2_1))) (by rfl) rfl ?_ ?_
                   ·
                    go_simp;(try simp only [i64_w]);try rfl
                   refine hK.out _ _ ⟨v331,m19_,(by rw [ha.out];exact putSel_upk 8 hb_ rfl rfl rfl),Q_BK327,Q_HB,fun h0_=>absurd ((hoff 16 (by kernel_rfl)).symm.trans h0_) (by decide),fun h0_=>absurd ((hoff 19 (by kernel_rfl)).symm.trans h0_) (by decide)⟩
                  refine steps_cons ?_ ?_
                  ·
                   rintro b a w' ⟨v331,m19_,ha,Q_BK327,Q_HB,Q_HO332,Q_X19_⟩ hb_ hon hoff;refine ⟨_,rfl,fun K hK=>?_⟩;have e32:a.tmps[32]?=some (.int .i64 (wrap64 (a2_1))):=by rw [ha];exact putSel_on (e:=(10,32,.int .i64 (wrap64 (a2_1)))) 8 rfl rfl (hon 10 (by kernel_rfl)) rfl
                   replace ha:=mk0 ha;have BK327:=mk0 Q_BK327;have HB:=mk0 Q_HB;refine value_ (w1:=w') (v:=.int .i64 (Int.tmod (wrap64 (a2_1)) 5)) (by rfl) rfl ?_ ?_
                   ·
                    go_simp;(try simp only [i64_w]);try rfl
                   refine hK.out _ _ ⟨v331,m19_,(by rw [ha.out];exact putSel_upk 9 hb_ rfl rfl rfl),Q_BK327,Q_HB,fun h0_=>absurd ((hoff 16 (by kernel_rfl)).symm.trans h0_) (by decide),fun h0_=>absurd ((hoff 19 (by kernel_rfl)).symm.trans h0_) (by decide)⟩
                  refine steps_cons ?_ ?_
                  ·
                   rintro b a w' ⟨v331,m19_,ha,Q_BK327,Q_HB,Q_HO332,Q_X19_⟩ hb_ hon hoff;refine ⟨_,rfl,fun K hK=>?_⟩;have e5:a.tmps[5]?=some (.pointer (some ⟨gb327,0,none⟩)):=by rw [ha];exact (putSel_off rfl).trans rfl
                   replace ha:=mk0 ha;have BK327:=mk0 Q_BK327;have HB:=mk0 Q_HB;refine value_ (w1:=w') (v:=.pointer (some ⟨gb327,2,none⟩)) (by rfl) rfl ?_ ?_
                   ·
                    go_simp;(try simp only [i64_w]);try rfl
                   refine hK.out _ _ ⟨v331,m19_,(by rw [ha.out];exact putSel_upk 10 hb_ rfl rfl rfl),Q_BK327,Q_HB,fun h0_=>absurd ((hoff 16 (by kernel_rfl)).symm.trans h0_) (by decide),fun h0_=>absurd ((hoff 19 (by kernel_rfl)).symm.trans h0_) (by decide)⟩
                  refine steps_cons ?_ ?_
                  ·
                   rintro b a w' ⟨v331,m19_,ha,Q_BK327,Q_HB,Q_HO332,Q_X19_⟩ hb_ hon hoff;refine ⟨_,rfl,fun K hK=>?_⟩;have e34:a.tmps[34]?=some (.pointer (some ⟨gb327,2,none⟩)):=by rw [ha];exact putSel_on (e:=(12,34,.pointer (some ⟨gb327,2,none⟩))) 10 rfl rfl (hon 12 (by kernel_rfl)) rfl
                   replace ha:=mk0 ha;have BK327:=mk0 Q_BK327;have HB:=mk0 Q_HB;have hc0_:w'.cell? ⟨gb327,0,none⟩=some (.int .u8 a2_0):=(blk_cell BK327.out 0).trans rfl;have hc1_:w'.cell? ⟨gb327,1,none⟩=some (.int .u8 a2_1):=(blk_cell BK327.out 1).trans rfl;have hc2_:w'.cell? ⟨gb327,2,none⟩=some (.int .u8 a2_2):=(blk_cell BK327.out 2).trans rfl;refine value_ (w1:=w') (v:=.int .u8 a2_2) (by rfl) rfl ?_ ?_
                   ·
                    go_simp;(try simp only [i64_w]);try rfl
                   refine hK.out _ _ ⟨v331,m19_,(by rw [ha.out];exact putSel_upk 11 hb_ rfl rfl rfl),Q_BK327,Q_HB,fun h0_=>absurd ((hoff 16 (by kernel_rfl)).symm.trans h0_) (by decide),fun h0_=>absurd ((hoff 19 (by kernel_rfl)).symm.trans h0_) (by decide)⟩
                  refine steps_cons ?_ ?_
                  ·
                   rintro b a w' ⟨v331,m19_,ha,Q_BK327,Q_HB,Q_HO332,Q_X19_⟩ hb_ hon hoff;refine ⟨_,rfl,fun K hK=>?_⟩;have e35:a.tmps[35]?=some (.int .u8 a2_2):=by rw [ha];exact putSel_on (e:=(13,35,.int .u8 a2_2)) 11 rfl rfl (hon 13 (by kernel_rfl)) rfl
                   replace ha:=mk0 ha;have BK327:=mk0 Q_BK327;have HB:=mk0 Q_HB;refine value_ (w1:=w') (v:=.int .i64 (wrap64 (a2_2))) (by rfl) rfl ?_ ?_
                   ·
                    go_simp;(try simp only [i64_w]);try rfl
                   refine hK.out _ _ ⟨v331,m19_,(by rw [ha.out];exact putSel_upk 12 hb_ rfl rfl rfl),Q_BK327,Q_HB,fun h0_=>absurd ((hoff 16 (by kernel_rfl)).symm.trans h0_) (by decide),fun h0_=>absurd ((hoff 19 (by kernel_rfl)).symm.trans h0_) (by decide)⟩
                  refine steps_cons ?_ ?_
                  ·
                   rintro b a w' ⟨v331,m19_,ha,Q_BK327,Q_HB,Q_HO332,Q_X19_⟩ hb_ hon hoff;refine ⟨_,rfl,fun K hK=>?_⟩;have e36:a.tmps[36]?=some (.int .i64 (wrap64 (a2_2))):=by rw [ha];exact putSel_on (e:=(14,36,.int .i64 (wrap64 (a2_2)))) 12 rfl rfl (hon 14 (by kernel_rfl)) rfl
                   replace ha:=mk0 ha;have BK327:=mk0 Q_BK327;have HB:=mk0 Q_HB;refine value_ (w1:=w') (v:=.int .i64 (Int.tmod (wrap64 (a2_2)) 5)) (by rfl) rfl ?_ ?_
                   ·
                    go_simp;(try simp only [i64_w]);try rfl
                   refine hK.out _ _ ⟨v331,m19_,(by rw [ha.out];exact putSel_upk 13 hb_ rfl rfl rfl),Q_BK327,Q_HB,fun h0_=>absurd ((hoff 16 (by kernel_rfl)).symm.trans h0_) (by decide),fun h0_=>absurd ((hoff 19 (by kernel_rfl)).symm.trans h0_) (by decide)⟩
                  refine steps_cons ?_ ?_
                  ·
                   rintro b a w' ⟨v331,m19_,ha,Q_BK327,Q_HB,Q_HO332,Q_X19_⟩ hb_ hon hoff;refine ⟨_,rfl,fun K hK=>?_⟩;have e29:a.tmps[29]?=some (.int .i64 (Int.tmod (wrap64 (a2_0)) 5)):=by rw [ha];exact putSel_on (e:=(7,29,.int .i64 (Int.tmod (wrap64 (a2_0)) 5))) 5 rfl rfl (hon 7 (by kernel_rfl)) rfl
                   have e33:a.tmps[33]?=some (.int .i64 (Int.tmod (wrap64 (a2_1)) 5)):=by rw [ha];exact putSel_on (e:=(11,33,.int .i64 (Int.tmod (wrap64 (a2_1)) 5))) 9 rfl rfl (hon 11 (by kernel_rfl)) rfl
                   have e37:a.tmps[37]?=some (.int .i64 (Int.tmod (wrap64 (a2_2)) 5)):=by rw [ha];exact putSel_on (e:=(15,37,.int .i64 (Int.tmod (wrap64 (a2_2)) 5))) 13 rfl rfl (hon 15 (by kernel_rfl)) rfl
                   replace ha:=mk0 ha;have BK327:=mk0 Q_BK327;have HB:=mk0 Q_HB;refine Kd.R_lit_step (Kd.int .i64) _ 3 ?hg (N:=38) ?hd (xs:=([Int.tmod (wrap64 (a2_0)) 5,Int.tmod (wrap64 (a2_1)) 5,Int.tmod (wrap64 (a2_2)) 5]:List Int)) (inner:=[.int .i64 (Int.tmod (wrap64 (a2_0)) 5),.int .i64 (Int.tmod (wrap64 (a2_1)) 5),.int .i64 (Int.tmod (wrap64 (a2_2)) 5)]) (ok:=fun _=>True) (okp:=fun _=>True) ?hr ?hp (fun _ hk=>hk) trivial (Below.refl _ _) (Nat.le_refl _) (by simp) ?_;(case hd=>rfl);(case hg=>rfl);(case hr=>first|(go_simp;done)|(go_simp;rfl));(case hp=>exact (Reps.one (show Kd.M (Kd.int .i64) _ _ _ (Int.tmod (wrap64 (a2_0)) 5) [.int .i64 (Int.tmod (wrap64 (a2_0)) 5)] from rfl) (Reps.one (show Kd.M (Kd.int .i64) _ _ _ (Int.tmod (wrap64 (a2_1)) 5) [.int .i64 (Int.tmod (wrap64 (a2_1)) 5)] from rfl) (Reps.one (show Kd.M (Kd.int .i64) _ _ _ (Int.tmod (wrap64 (a2_2)) 5) [.int .i64 (Int.tmod (wrap64 (a2_2)) 5)] from rfl) (Reps.none _ _)))));intro v331 w66 ho67 hb hg_ hnew_;clear hg_ hnew_;(first|rw [← Ny330.out] at ho67|(simp only [Int.reduceToNat] at ho67;rw [← Ny330.out] at ho67));have HO332:=mk0 (Kd.R_lower ho67 (below_size HB.out));replace BK327:=bkb BK327 hb;replace HB:=bst HB hb;clear hb ho67;refine hK.out _ _ ⟨v331,m19_,(by rw [ha.out];exact putSel_upk 14 hb_ rfl rfl rfl),BK327.out,HB.out,fun _=>HO332.out,fun h0_=>absurd ((hoff 19 (by kernel_rfl)).symm.trans h0_) (by decide)⟩
                  refine steps_cons ?_ ?_
                  ·
                   rintro b a w' ⟨v331,m19_,ha,Q_BK327,Q_HB,Q_HO332,Q_X19_⟩ hb_ hon hoff;refine ⟨_,rfl,fun K hK=>?_⟩;have e23:a.tmps[23]?=some (.string t328):=by rw [ha];exact putSel_on (e:=(1,23,.string t328)) 0 rfl rfl (hon 1 (by kernel_rfl)) rfl
                   replace ha:=mk0 ha;have BK327:=mk0 Q_BK327;have HB:=mk0 Q_HB;refine value_ (w1:=w') (v:=.string t328) (by rfl) rfl ?_ ?_
                   ·
                    go_simp;(try simp only [i64_w]);try rfl
                   refine hK.out _ _ ⟨v331,m19_,(by rw [ha.out];exact putSel_upk 15 hb_ rfl rfl rfl),Q_BK327,Q_HB,Q_HO332,fun h0_=>absurd ((hoff 19 (by kernel_rfl)).symm.trans h0_) (by decide)⟩
                  refine steps_cons ?_ ?_
                  ·
                   rintro b a w' ⟨v331,m19_,ha,Q_BK327,Q_HB,Q_HO332,Q_X19_⟩ hb_ hon hoff;refine ⟨_,rfl,fun K hK=>?_⟩;have e25:a.tmps[25]?=some (.string t329):=by rw [ha];exact putSel_on (e:=(3,25,.string t329)) 1 rfl rfl (hon 3 (by kernel_rfl)) rfl
                   replace ha:=mk0 ha;have BK327:=mk0 Q_BK327;have HB:=mk0 Q_HB;refine value_ (w1:=w') (v:=.string t329) (by rfl) rfl ?_ ?_
                   ·
                    go_simp;(try simp only [i64_w]);try rfl
                   refine hK.out _ _ ⟨v331,m19_,(by rw [ha.out];exact putSel_upk 16 hb_ rfl rfl rfl),Q_BK327,Q_HB,Q_HO332,fun h0_=>absurd ((hoff 19 (by kernel_rfl)).symm.trans h0_) (by decide)⟩
                  refine steps_cons ?_ ?_
                  ·
                   rintro b a w' ⟨v331,m19_,ha,Q_BK327,Q_HB,Q_HO332,Q_X19_⟩ hb_ hon hoff;refine ⟨_,rfl,fun K hK=>?_⟩;have e38:a.tmps[38]?=some (v331):=by rw [ha];exact putSel_on (e:=(16,38,v331)) 14 rfl rfl (hon 16 (by kernel_rfl)) rfl
                   replace ha:=mk0 ha;have BK327:=mk0 Q_BK327;have HB:=mk0 Q_HB;have HO332:=mk0 (Q_HO332 (hon 16 (by kernel_rfl)));refine value_ (w1:=w') (v:=v331) (by rfl) rfl ?_ ?_
                   ·
                    go_simp;(try simp only [i64_w]);try rfl
                   refine hK.out _ _ ⟨v331,(v331),(by rw [ha.out];exact putSel_upk 17 hb_ rfl rfl rfl),Q_BK327,Q_HB,Q_HO332,fun _=>rfl⟩
                  exact steps_nil
                 rintro b a w70 hall ⟨v331,m19_,ha,Q_BK327,Q_HB,Q_HO332,Q_X19_⟩;clear BK327 HB;have hb1_:=hall 1 (by kernel_rfl);have hb3_:=hall 3 (by kernel_rfl);have hb4_:=hall 4 (by kernel_rfl);have hb5_:=hall 5 (by kernel_rfl);have hb6_:=hall 6 (by kernel_rfl);have hb7_:=hall 7 (by kernel_rfl);have hb8_:=hall 8 (by kernel_rfl);have hb9_:=hall 9 (by kernel_rfl);have hb10_:=hall 10 (by kernel_rfl);have hb11_:=hall 11 (by kernel_rfl);have hb12_:=hall 12 (by kernel_rfl);have hb13_:=hall 13 (by kernel_rfl);have hb14_:=hall 14 (by kernel_rfl);have hb15_:=hall 15 (by kernel_rfl);have hb16_:=hall 16 (by kernel_rfl);have hb17_:=hall 17 (by kernel_rfl);have hb18_:=hall 18 (by kernel_rfl);have hb19_:=hall 19 (by kernel_rfl);subst ha;obtain rfl:=Q_X19_ hb19_;simp only [putSel,hb1_,hb3_,hb4_,hb5_,hb6_,hb7_,hb8_,hb9_,hb10_,hb11_,hb12_,hb13_,hb14_,hb15_,hb16_,hb17_,hb18_,hb19_,if_true,Act.put,List.setIfInBounds_toArray,List.set_cons_zero,List.set_cons_succ];have BK327:=mk0 Q_BK327;clear Q_BK327;have HB:=mk0 Q_HB;clear Q_HB;have HO332:=mk0 (Q_HO332 hb16_);clear Q_HO332;clear hall hb1_ hb3_ hb4_ hb5_ hb6_ hb7_ hb8_ hb9_ hb10_ hb11_ hb12_ hb13_ hb14_ hb15_ hb16_ hb17_ hb18_ hb19_;obtain ⟨Ao71,co71,eo71⟩:=Kd.R_slice HO332.out;subst eo71;try go_wp2_with (first|((with_reducible refine gate_callee (f:=26) rfl ?_);refine goesL_ (some 45) rfl rfl Try.func26 (by kernel_rfl) rfl #[.string ((t328 ++ t329) ++ (⟨#[46]⟩:ByteArray)),.slice Ao71 y330.length co71] rfl (by (try simp only [List.map_toArray,List.map_cons,List.map_nil]);first|done|rfl|(simp only [List.length_drop,List.length_take];rfl)) ?_;(with_reducible refine (count_Accepts.calls k ((t328 ++ t329) ++ (⟨#[46]⟩:ByteArray)) _ _ y330 true t334 _ ?side1 ?side2 A8.out).mono ?_);(case side1=>repeat (first|exact (Kd.R_reads' HO332.out).2.2|(with_reducible refine Kd.C_alloc ?_ _)|(with_reducible refine Kd.C_drewN ?_ _)|(with_reducible refine Kd.C_drew ?_)));(case side2=>exact (Kd.R_reads' HO332.out).2.1);rintro e w72 ⟨rfl,hb⟩;refine ⟨_,rfl,?_⟩;replace HO332:=rbl HO332 hb;replace BK327:=bkb BK327 hb;replace HB:=bst HB hb;(try clear hb))|((with_reducible refine gate_callee (f:=26) rfl ?_);refine goesL_ (some 54) rfl rfl Try.func26 (by kernel_rfl) rfl #[.string ((t329 ++ t328) ++ (⟨#[46]⟩:ByteArray)),.slice Ao71 y330.length co71] rfl (by (try simp only [List.map_toArray,List.map_cons,List.map_nil]);first|done|rfl|(simp only [List.length_drop,List.length_take];rfl)) ?_;(with_reducible refine (count_Accepts.calls k ((t329 ++ t328) ++ (⟨#[46]⟩:ByteArray)) _ _ y330 true t336 _ ?side1 ?side2 A11.out).mono ?_);(case side1=>repeat (first|exact (Kd.R_reads' HO332.out).2.2|(with_reducible refine Kd.C_alloc ?_ _)|(with_reducible refine Kd.C_drewN ?_ _)|(with_reducible refine Kd.C_drew ?_)));(case side2=>exact (Kd.R_reads' HO332.out).2.1);rintro e w73 ⟨rfl,hb⟩;refine ⟨_,rfl,?_⟩;replace HO332:=rbl HO332 hb;replace BK327:=bkb BK327 hb;replace HB:=bst HB hb;(try clear hb))|((with_reducible refine gate_callee (f:=26) rfl ?_);refine goesL_ (some 63) rfl rfl Try.func26 (by kernel_rfl) rfl #[.string ((t328 ++ t329) ++ (⟨#[43]⟩:ByteArray)),.slice Ao71 y330.length co71] rfl (by (try simp only [List.map_toArray,List.map_cons,List.map_nil]);first|done|rfl|(simp only [List.length_drop,List.length_take];rfl)) ?_;(with_reducible refine (count_Accepts.calls k ((t328 ++ t329) ++ (⟨#[43]⟩:ByteArray)) _ _ y330 false t338 _ ?side1 ?side2 A12.out).mono ?_);(case side1=>repeat (first|exact (Kd.R_reads' HO332.out).2.2|(with_reducible refine Kd.C_alloc ?_ _)|(with_reducible refine Kd.C_drewN ?_ _)|(with_reducible refine Kd.C_drew ?_)));(case side2=>exact (Kd.R_reads' HO332.out).2.1);rintro e w74 ⟨rfl,hb⟩;refine ⟨_,rfl,?_⟩;replace HO332:=rbl HO332 hb;replace BK327:=bkb BK327 hb;replace HB:=bst HB hb;(try clear hb))|((with_reducible refine gate_callee (f:=26) rfl ?_);refine goesL_ (some 72) rfl rfl Try.func26 (by kernel_rfl) rfl #[.string ((t329 ++ t328) ++ (⟨#[43]⟩:ByteArray)),.slice Ao71 y330.length co71] rfl (by (try simp only [List.map_toArray,List.map_cons,List.map_nil]);first|done|rfl|(simp only [List.length_drop,List.length_take];rfl)) ?_;(with_reducible refine (count_Accepts.calls k ((t329 ++ t328) ++ (⟨#[43]⟩:ByteArray)) _ _ y330 false t340 _ ?side1 ?side2 A13.out).mono ?_);(case side1=>repeat (first|exact (Kd.R_reads' HO332.out).2.2|(with_reducible refine Kd.C_alloc ?_ _)|(with_reducible refine Kd.C_drewN ?_ _)|(with_reducible refine Kd.C_drew ?_)));(case side2=>exact (Kd.R_reads' HO332.out).2.1);rintro e w75 ⟨rfl,hb⟩;refine ⟨_,rfl,?_⟩;replace HO332:=rbl HO332 hb;replace BK327:=bkb BK327 hb;replace HB:=bst HB hb;(try clear hb))|((with_reducible refine gate_callee (f:=26) rfl ?_);refine goesL_ (some 78) rfl rfl Try.func26 (by kernel_rfl) rfl #[.string t328,.slice Ao71 y330.length co71] rfl (by (try simp only [List.map_toArray,List.map_cons,List.map_nil]);first|done|rfl|(simp only [List.length_drop,List.length_take];rfl)) ?_;(with_reducible refine (count_Accepts.calls k t328 _ _ y330 false t342 _ ?side1 ?side2 A14.out).mono ?_);(case side1=>repeat (first|exact (Kd.R_reads' HO332.out).2.2|(with_reducible refine Kd.C_alloc ?_ _)|(with_reducible refine Kd.C_drewN ?_ _)|(with_reducible refine Kd.C_drew ?_)));(case side2=>exact (Kd.R_reads' HO332.out).2.1);rintro e w76 ⟨rfl,hb⟩;refine ⟨_,rfl,?_⟩;replace HO332:=rbl HO332 hb;replace BK327:=bkb BK327 hb;replace HB:=bst HB hb;(try clear hb))|((with_reducible refine gate_callee (f:=26) rfl ?_);refine goesL_ (some 84) rfl rfl Try.func26 (by kernel_rfl) rfl #[.string t329,.slice Ao71 y330.length co71] rfl (by (try simp only [List.map_toArray,List.map_cons,List.map_nil]);first|done|rfl|(simp only [List.length_drop,List.length_take];rfl)) ?_;(with_reducible refine (count_Accepts.calls k t329 _ _ y330 false t344 _ ?side1 ?side2 A15.out).mono ?_);(case side1=>repeat (first|exact (Kd.R_reads' HO332.out).2.2|(with_reducible refine Kd.C_alloc ?_ _)|(with_reducible refine Kd.C_drewN ?_ _)|(with_reducible refine Kd.C_drew ?_)));(case side2=>exact (Kd.R_reads' HO332.out).2.1);rintro e w77 ⟨rfl,hb⟩;refine ⟨_,rfl,?_⟩;replace HO332:=rbl HO332 hb;replace BK327:=bkb BK327 hb;replace HB:=bst HB hb;(try clear hb))|(go_at_call 22;(with_reducible refine (bellpulllaw05_lives.calls k  t347 _ A63.out).mono ?_);rintro e w78 ⟨rfl,hb⟩;replace HO332:=rbl HO332 hb;replace BK327:=bkb BK327 hb;replace HB:=bst HB hb;(try clear hb)))
                 go_ret;exact ⟨by first|rfl|(simp [errW_none,errW_some] <;> rfl)|(simp [*,errW_none,errW_some] <;> rfl),by repeat (first|(with_reducible first|exact HB.out|apply below_alloc|apply pw_below_drewN|apply below_drew1|refine below_set ?_ GE327.out)|exact HB.out)⟩
            ·
             replace c23:=Bool.eq_false_iff.mpr c23;subst c23;have H1:(none)=some r:=by rw [if_neg (show ¬ (false=true) by decide)] at H;exact H
             clear H;have H:=H1;clear H1;exact absurd H (by simp)
           ·
            replace c22:=Bool.eq_false_iff.mpr c22;subst c22;have H1:(if t335=true then (none) else (if t337=true then (if t339=true then (if t341=true then ((bellpulllaw05_lives.f k).bind fun t348=>(some t348)) else (if t343=true then ((bellpulllaw05_lives.f k).bind fun t349=>(some t349)) else (none))) else (none)) else (if t339=true then (none) else (if t341=true then (none) else (if t343=true then (none) else ((bellpulllaw05_lives.f k).bind fun t350=>(some t350)))))))=some r:=by rw [if_neg (show ¬ (false=true) by decide)] at H;exact H
            clear H;have H:=H1;clear H1
            by_cases c79:t335=true
            ·
             subst c79;have H1:(none)=some r:=by rw [if_pos rfl] at H;exact H
             clear H;have H:=H1;clear H1;exact absurd H (by simp)
            ·
             replace c79:=Bool.eq_false_iff.mpr c79;subst c79;have H1:(if t337=true then (if t339=true then (if t341=true then ((bellpulllaw05_lives.f k).bind fun t348=>(some t348)) else (if t343=true then ((bellpulllaw05_lives.f k).bind fun t349=>(some t349)) else (none))) else (none)) else (if t339=true then (none) else (if t341=true then (none) else (if t343=true then (none) else ((bellpulllaw05_lives.f k).bind fun t350=>(some t350))))))=some r:=by rw [if_neg (show ¬ (false=true) by decide)] at H;exact H
             clear H;have H:=H1;clear H1
             by_cases c80:t337=true
             ·
              subst c80;have H1:(if t339=true then (if t341=true then ((bellpulllaw05_lives.f k).bind fun t348=>(some t348)) else (if t343=true then ((bellpulllaw05_lives.f k).bind fun t349=>(some t349)) else (none))) else (none))=some r:=by rw [if_pos rfl] at H;exact H
              clear H;have H:=H1;clear H1
              by_cases c81:t339=true
              ·
               subst c81;have H1:(if t341=true then ((bellpulllaw05_lives.f k).bind fun t348=>(some t348)) else (if t343=true then ((bellpulllaw05_lives.f k).bind fun t349=>(some t349)) else (none)))=some r:=by rw [if_pos rfl] at H;exact H
               clear H;have H:=H1;clear H1
               by_cases c82:t341=true
               ·
                subst c82;have H1:((bellpulllaw05_lives.f k).bind fun t348=>(some t348))=some r:=by rw [if_pos rfl] at H;exact H
                clear H;have H:=H1;clear H1;replace H:=Option.bind_eq_some_iff.mp H;obtain ⟨t348,A830,H⟩:=H;(try dsimp only at H);have A83:=mk0 A830;clear A830;obtain rfl:=Option.some.inj H;go_enter Try.func9,Try.ntmps9;try go_wp2_with (first|((with_reducible refine gate_dst (N:=5) rfl ?_);refine box_event ?hg (N:=5) ?hd (cs:=#[.int .u8 a2_0,.int .u8 a2_1,.int .u8 a2_2]) (t:=51) ?hr ?_;(case hd=>rfl);(case hg=>rfl);(case hr=>first|(go_simp;done)|(go_simp;rfl));intro gb327 hg w84 hbox hb;have BK327:=mk0 (hbox);have GW327:=szw hg HB;have GE327:=GW327;replace HB:=bst HB hb;clear hb hbox hg))
                replace BK327:=bdr BK327;replace HB:=hdr HB;refine start_ (n:=20) (S:=fun w'=>True) (ds:=[]) #[false,false,false,false,false,false,false,false,false,false,false,false,false,false,false,false,false,false,false,false] (by kernel_rfl) rfl rfl trivial (fun hHeld=>?_);refine with_tabW bellpulllaw05_CountCommutes.tab1 bellpulllaw05_CountCommutes.bits1 (fun HT_ HW_=>?_);generalize w84.drew=w85 at BK327 HB hHeld ⊢;refine pure_ (i:=0) (N:=some 22) (v:=?_) (a':=?_) #[true,false,false,false,false,false,false,false,false,false,false,false,false,false,false,false,false,false,false,false] rfl rfl (any_of HT_.out (by kernel_rfl)) (fun _ _ _ h=>h) (Or.inl ⟨by rfl,?_⟩) ?_ ?_;rotate_left
                ·
                 intro w';go_simp;with_reducible rfl
                rotate_left
                ·
                 simp only [Act.put,List.setIfInBounds_toArray,List.set_cons_zero,List.set_cons_succ,i64_w,i32_w];rfl
                refine pure_ (i:=2) (N:=some 24) (v:=?_) (a':=?_) #[true,false,true,false,false,false,false,false,false,false,false,false,false,false,false,false,false,false,false,false] rfl rfl (any_of HT_.out (by kernel_rfl)) (fun _ _ _ h=>h) (Or.inl ⟨by rfl,?_⟩) ?_ ?_;rotate_left
                ·
                 intro w';go_simp;with_reducible rfl
                rotate_left
                ·
                 simp only [Act.put,List.setIfInBounds_toArray,List.set_cons_zero,List.set_cons_succ,i64_w,i32_w];rfl
                refine inv_at [1,3,4,5,6,7,8,9,10,11,12,13,14,15,16,17,18,19] (fun a0_ b a w'=>∃ (v331:Value) (m19_:Value),a=putSel a0_ b [(1,23,.string t328),(3,25,.string t329),(4,26,.pointer (some ⟨gb327,0,none⟩)),(5,27,.int .u8 a2_0),(6,28,.int .i64 (wrap64 (a2_0))),(7,29,.int .i64 (Int.tmod (wrap64 (a2_0)) 5)),(8,30,.pointer (some ⟨gb327,1,none⟩)),(9,31,.int .u8 a2_1),(10,32,.int .i64 (wrap64 (a2_1))),(11,33,.int .i64 (Int.tmod (wrap64 (a2_1)) 5)),(12,34,.pointer (some ⟨gb327,2,none⟩)),(13,35,.int .u8 a2_2),(14,36,.int .i64 (wrap64 (a2_2))),(15,37,.int .i64 (Int.tmod (wrap64 (a2_2)) 5)),(16,38,v331),(17,7,.string t328),(18,8,.string t329),(19,9,m19_)]∧(w'.heap[gb327]?=some (.cells #[.int .u8 a2_0,.int .u8 a2_1,.int .u8 a2_2] 51 (0,0)))∧(Below w.heap.size w w')∧(b 16=true → Kd.R (Kd.int .i64) 3 w' w.heap.size (fun _=>True) v331 y330)∧(b 19=true → (m19_:Value)=v331)) HT_.out HW_.out (by kernel_rfl) (by kernel_rfl) ?_ ?_ ?_
                ·
                 exact ⟨.bool false,.bool false,by simp only [putSel,Bool.false_eq_true,if_false],BK327.out,HB.out,fun h_=>absurd h_ (by decide),fun h_=>absurd h_ (by decide)⟩
                ·
                 skip
                 clear BK327 HB;refine steps_cons ?_ ?_
                 ·
                  rintro b a w' ⟨v331,m19_,ha,Q_BK327,Q_HB,Q_HO332,Q_X19_⟩ hb_ hon hoff;refine ⟨_,rfl,fun K hK=>?_⟩;have e22:a.tmps[22]?=some (.slice A0 l0.length c0):=by rw [ha];exact (putSel_off rfl).trans rfl
                  replace ha:=mk0 ha;have BK327:=mk0 Q_BK327;have HB:=mk0 Q_HB;refine goes_ Try.func32 (by kernel_rfl) rfl #[.slice A0 l0.length c0,.int .i64 10] (by rfl) rfl rfl (by first|(simp only [List.map_toArray,List.map_cons,List.map_nil,Act.eval,Array.getD_eq_getD_getElem?,Option.getD_some,e22];done)|(simp only [List.map_toArray,List.map_cons,List.map_nil,Act.eval,Array.getD_eq_getD_getElem?,Option.getD_some,e22];rfl)) ?_;with_reducible refine (bellpulllaw05_code.calls k _ _ l0 10 t328 _ ?side1 ?side2 A4.out).mono ?_
                  (case side1=>repeat (first|exact (Kd.C_below HR0.out HB.out)|(with_reducible refine Kd.C_alloc ?_ _)|(with_reducible refine Kd.C_drewN ?_ _)|(with_reducible refine Kd.C_drew ?_)));(case side2=>exact HC0.out);rintro e w86 ⟨rfl,hb⟩;refine ⟨_,rfl,?_⟩;have n0_:=bkb BK327 hb;have n1_:=bst HB hb;have z_HO332:=fun (h0_:b 16=true)=>(show Kd.R (Kd.int .i64) 3 w86 w.heap.size (fun _=>True) v331 y330 from by first|exact (Kd.R_below (by (with_reducible repeat (first|apply Kd.R_alloc|apply Kd.R_drewN|apply Kd.R_drew));exact (Q_HO332 h0_)) hb)|exact Kd.R_mono (Kd.R_below (by (with_reducible repeat (first|apply Kd.R_alloc|apply Kd.R_drewN|apply Kd.R_drew));exact (Q_HO332 h0_)) hb) (fun _ h_=>by first|trivial|exact h_|exact h_.1))
                  clear BK327;clear HB;have BK327:=n0_;have HB:=n1_;clear n0_ n1_;(try clear hb);refine hK.out _ _ ⟨v331,m19_,(by rw [ha.out];exact putSel_upk 0 hb_ rfl rfl rfl),BK327.out,HB.out,z_HO332,fun h0_=>absurd ((hoff 19 (by kernel_rfl)).symm.trans h0_) (by decide)⟩
                 refine steps_cons ?_ ?_
                 ·
                  rintro b a w' ⟨v331,m19_,ha,Q_BK327,Q_HB,Q_HO332,Q_X19_⟩ hb_ hon hoff;refine ⟨_,rfl,fun K hK=>?_⟩;have e24:a.tmps[24]?=some (.slice A1 l1.length c1):=by rw [ha];exact (putSel_off rfl).trans rfl
                  replace ha:=mk0 ha;have BK327:=mk0 Q_BK327;have HB:=mk0 Q_HB;refine goes_ Try.func32 (by kernel_rfl) rfl #[.slice A1 l1.length c1,.int .i64 10] (by rfl) rfl rfl (by first|(simp only [List.map_toArray,List.map_cons,List.map_nil,Act.eval,Array.getD_eq_getD_getElem?,Option.getD_some,e24];done)|(simp only [List.map_toArray,List.map_cons,List.map_nil,Act.eval,Array.getD_eq_getD_getElem?,Option.getD_some,e24];rfl)) ?_;with_reducible refine (bellpulllaw05_code.calls k _ _ l1 10 t329 _ ?side1 ?side2 A5.out).mono ?_
                  (case side1=>repeat (first|exact (Kd.C_below HR1.out HB.out)|(with_reducible refine Kd.C_alloc ?_ _)|(with_reducible refine Kd.C_drewN ?_ _)|(with_reducible refine Kd.C_drew ?_)));(case side2=>exact HC1.out);rintro e w88 ⟨rfl,hb⟩;refine ⟨_,rfl,?_⟩;have n0_:=bkb BK327 hb;have n1_:=bst HB hb;have z_HO332:=fun (h0_:b 16=true)=>(show Kd.R (Kd.int .i64) 3 w88 w.heap.size (fun _=>True) v331 y330 from by first|exact (Kd.R_below (by (with_reducible repeat (first|apply Kd.R_alloc|apply Kd.R_drewN|apply Kd.R_drew));exact (Q_HO332 h0_)) hb)|exact Kd.R_mono (Kd.R_below (by (with_reducible repeat (first|apply Kd.R_alloc|apply Kd.R_drewN|apply Kd.R_drew));exact (Q_HO332 h0_)) hb) (fun _ h_=>by first|trivial|exact h_|exact h_.1))
                  clear BK327;clear HB;have BK327:=n0_;have HB:=n1_;clear n0_ n1_;(try clear hb);refine hK.out _ _ ⟨v331,m19_,(by rw [ha.out];exact putSel_upk 1 hb_ rfl rfl rfl),BK327.out,HB.out,z_HO332,fun h0_=>absurd ((hoff 19 (by kernel_rfl)).symm.trans h0_) (by decide)⟩
                 refine steps_cons ?_ ?_
                 ·
                  rintro b a w' ⟨v331,m19_,ha,Q_BK327,Q_HB,Q_HO332,Q_X19_⟩ hb_ hon hoff;refine ⟨_,rfl,fun K hK=>?_⟩;have e5:a.tmps[5]?=some (.pointer (some ⟨gb327,0,none⟩)):=by rw [ha];exact (putSel_off rfl).trans rfl
                  replace ha:=mk0 ha;have BK327:=mk0 Q_BK327;have HB:=mk0 Q_HB;refine value_ (w1:=w') (v:=.pointer (some ⟨gb327,0,none⟩)) (by rfl) rfl ?_ ?_
                  ·
                   go_simp;(try simp only [i64_w]);try rfl
                  refine hK.out _ _ ⟨v331,m19_,(by rw [ha.out];exact putSel_upk 2 hb_ rfl rfl rfl),Q_BK327,Q_HB,fun h0_=>absurd ((hoff 16 (by kernel_rfl)).symm.trans h0_) (by decide),fun h0_=>absurd ((hoff 19 (by kernel_rfl)).symm.trans h0_) (by decide)⟩
                 refine steps_cons ?_ ?_
                 ·
                  rintro b a w' ⟨v331,m19_,ha,Q_BK327,Q_HB,Q_HO332,Q_X19_⟩ hb_ hon hoff;refine ⟨_,rfl,fun K hK=>?_⟩;have e26:a.tmps[26]?=some (.pointer (some ⟨gb327,0,none⟩)):=by rw [ha];exact putSel_on (e:=(4,26,.pointer (some ⟨gb327,0,none⟩))) 2 rfl rfl (hon 4 (by kernel_rfl)) rfl
                  replace ha:=mk0 ha;have BK327:=mk0 Q_BK327;have HB:=mk0 Q_HB;have hc0_:w'.cell? ⟨gb327,0,none⟩=some (.int .u8 a2_0):=(blk_cell BK327.out 0).trans rfl;have hc1_:w'.cell? ⟨gb327,1,none⟩=some (.int .u8 a2_1):=(blk_cell BK327.out 1).trans rfl;have hc2_:w'.cell? ⟨gb327,2,none⟩=some (.int .u8 a2_2):=(blk_cell BK327.out 2).trans rfl;refine value_ (w1:=w') (v:=.int .u8 a2_0) (by rfl) rfl ?_ ?_
                  ·
                   go_simp;(try simp only [i64_w]);try rfl
                  refine hK.out _ _ ⟨v331,m19_,(by rw [ha.out];exact putSel_upk 3 hb_ rfl rfl rfl),Q_BK327,Q_HB,fun h0_=>absurd ((hoff 16 (by kernel_rfl)).symm.trans h0_) (by decide),fun h0_=>absurd ((hoff 19 (by kernel_rfl)).symm.trans h0_) (by decide)⟩
                 refine steps_cons ?_ ?_
                 ·
                  rintro b a w' ⟨v331,m19_,ha,Q_BK327,Q_HB,Q_HO332,Q_X19_⟩ hb_ hon hoff;refine ⟨_,rfl,fun K hK=>?_⟩;have e27:a.tmps[27]?=some (.int .u8 a2_0):=by rw [ha];exact putSel_on (e:=(5,27,.int .u8 a2_0)) 3 rfl rfl (hon 5 (by kernel_rfl)) rfl
                  replace ha:=mk0 ha;have BK327:=mk0 Q_BK327;have HB:=mk0 Q_HB;refine value_ (w1:=w') (v:=.int .i64 (wrap64 (a2_0))) (by rfl) rfl ?_ ?_
                  ·
                   go_simp;(try simp only [i64_w]);try rfl
                  refine hK.out _ _ ⟨v331,m19_,(by rw [ha.out];exact putSel_upk 4 hb_ rfl rfl rfl),Q_BK327,Q_HB,fun h0_=>absurd ((hoff 16 (by kernel_rfl)).symm.trans h0_) (by decide),fun h0_=>absurd ((hoff 19 (by kernel_rfl)).symm.trans h0_) (by decide)⟩
                 refine steps_cons ?_ ?_
                 ·
                  rintro b a w' ⟨v331,m19_,ha,Q_BK327,Q_HB,Q_HO332,Q_X19_⟩ hb_ hon hoff;refine ⟨_,rfl,fun K hK=>?_⟩;have e28:a.tmps[28]?=some (.int .i64 (wrap64 (a2_0))):=by rw [ha];exact putSel_on (e:=(6,28,.int .i64 (wrap64 (a2_0)))) 4 rfl rfl (hon 6 (by kernel_rfl)) rfl
                  replace ha:=mk0 ha;have BK327:=mk0 Q_BK327;have HB:=mk0 Q_HB;refine value_ (w1:=w') (v:=.int .i64 (Int.tmod (wrap64 (a2_0)) 5)) (by rfl) rfl ?_ ?_
                  ·
                   go_simp;(try simp only [i64_w]);try rfl
                  refine hK.out _ _ ⟨v331,m19_,(by rw [ha.out];exact putSel_upk 5 hb_ rfl rfl rfl),Q_BK327,Q_HB,fun h0_=>absurd ((hoff 16 (by kernel_rfl)).symm.trans h0_) (by decide),fun h0_=>absurd ((hoff 19 (by kernel_rfl)).symm.trans h0_) (by decide)⟩
                 refine steps_cons ?_ ?_
                 ·
                  rintro b a w' ⟨v331,m19_,ha,Q_BK327,Q_HB,Q_HO332,Q_X19_⟩ hb_ hon hoff;refine ⟨_,rfl,fun K hK=>?_⟩;have e5:a.tmps[5]?=some (.pointer (some ⟨gb327,0,none⟩)):=by rw [ha];exact (putSel_off rfl).trans rfl
                  replace ha:=mk0 ha;have BK327:=mk0 Q_BK327;have HB:=mk0 Q_HB;refine value_ (w1:=w') (v:=.pointer (some ⟨gb327,1,none⟩)) (by rfl) rfl ?_ ?_
                  ·
                   go_simp;(try simp only [i64_w]);try rfl
                  refine hK.out _ _ ⟨v331,m19_,(by rw [ha.out];exact putSel_upk 6 hb_ rfl rfl rfl),Q_BK327,Q_HB,fun h0_=>absurd ((hoff 16 (by kernel_rfl)).symm.trans h0_) (by decide),fun h0_=>absurd ((hoff 19 (by kernel_rfl)).symm.trans h0_) (by decide)⟩
                 refine steps_cons ?_ ?_
                 ·
                  rintro b a w' ⟨v331,m19_,ha,Q_BK327,Q_HB,Q_HO332,Q_X19_⟩ hb_ hon hoff;refine ⟨_,rfl,fun K hK=>?_⟩;have e30:a.tmps[30]?=some (.pointer (some ⟨gb327,1,none⟩)):=by rw [ha];exact putSel_on (e:=(8,30,.pointer (some ⟨gb327,1,none⟩))) 6 rfl rfl (hon 8 (by kernel_rfl)) rfl
                  replace ha:=mk0 ha;have BK327:=mk0 Q_BK327;have HB:=mk0 Q_HB;have hc0_:w'.cell? ⟨gb327,0,none⟩=some (.int .u8 a2_0):=(blk_cell BK327.out 0).trans rfl;have hc1_:w'.cell? ⟨gb327,1,none⟩=some (.int .u8 a2_1):=(blk_cell BK327.out 1).trans rfl;have hc2_:w'.cell? ⟨gb327,2,none⟩=some (.int .u8 a2_2):=(blk_cell BK327.out 2).trans rfl;refine value_ (w1:=w') (v:=.int .u8 a2_1) (by rfl) rfl ?_ ?_
                  ·
                   go_simp;(try simp only [i64_w]);try rfl
                  refine hK.out _ _ ⟨v331,m19_,(by rw [ha.out];exact putSel_upk 7 hb_ rfl rfl rfl),Q_BK327,Q_HB,fun h0_=>absurd ((hoff 16 (by kernel_rfl)).symm.trans h0_) (by decide),fun h0_=>absurd ((hoff 19 (by kernel_rfl)).symm.trans h0_) (by decide)⟩
                 refine steps_cons ?_ ?_
                 ·
                  rintro b a w' ⟨v331,m19_,ha,Q_BK327,Q_HB,Q_HO332,Q_X19_⟩ hb_ hon hoff;refine ⟨_,rfl,fun K hK=>?_⟩;have e31:a.tmps[31]?=some (.int .u8 a2_1):=by rw [ha];exact putSel_on (e:=(9,31,.int .u8 a2_1)) 7 rfl rfl (hon 9 (by kernel_rfl)) rfl
                  replace ha:=mk0 ha;have BK327:=mk0 Q_BK327;have HB:=mk0 Q_HB;refine value_ (w1:=w') (v:=.int .i64 (wrap64 (a2_1))) (by rfl) rfl ?_ ?_
                  ·
                   go_simp;(try simp only [i64_w]);try rfl
                  refine hK.out _ _ ⟨v331,m19_,(by rw [ha.out];exact putSel_upk 8 hb_ rfl rfl rfl),Q_BK327,Q_HB,fun h0_=>absurd ((hoff 16 (by kernel_rfl)).symm.trans h0_) (by decide),fun h0_=>absurd ((hoff 19 (by kernel_rfl)).symm.trans h0_) (by decide)⟩
                 refine steps_cons ?_ ?_
                 ·
                  rintro b a w' ⟨v331,m19_,ha,Q_BK327,Q_HB,Q_HO332,Q_X19_⟩ hb_ hon hoff;refine ⟨_,rfl,fun K hK=>?_⟩;have e32:a.tmps[32]?=some (.int .i64 (wrap64 (a2_1))):=by rw [ha];exact putSel_on (e:=(10,32,.int .i64 (wrap64 (a2_1)))) 8 rfl rfl (hon 10 (by kernel_rfl)) rfl
                  replace ha:=mk0 ha;have BK327:=mk0 Q_BK327;have HB:=mk0 Q_HB;refine value_ (w1:=w') (v:=.int .i64 (Int.tmod (wrap64 (a2_1)) 5)) (by rfl) rfl ?_ ?_
                  ·
                   go_simp;(try simp only [i64_w]);try rfl
                  refine hK.out _ _ ⟨v331,m19_,(by rw [ha.out];exact putSel_upk 9 hb_ rfl rfl rfl),Q_BK327,Q_HB,fun h0_=>absurd ((hoff 16 (by kernel_rfl)).symm.trans h0_) (by decide),fun h0_=>absurd ((hoff 19 (by kernel_rfl)).symm.trans h0_) (by decide)⟩
                 refine steps_cons ?_ ?_
                 ·
                  rintro b a w' ⟨v331,m19_,ha,Q_BK327,Q_HB,Q_HO332,Q_X19_⟩ hb_ hon hoff;refine ⟨_,rfl,fun K hK=>?_⟩;have e5:a.tmps[5]?=some (.pointer (some ⟨gb327,0,none⟩)):=by rw [ha];exact (putSel_off rfl).trans rfl
                  replace ha:=mk0 ha;have BK327:=mk0 Q_BK327;have HB:=mk0 Q_HB;refine value_ (w1:=w') (v:=.pointer (some ⟨gb327,2,none⟩)) (by rfl) rfl ?_ ?_
                  ·
                   go_simp;(try simp only [i64_w]);try rfl
                  refine hK.out _ _ ⟨v331,m19_,(by rw [ha.out];exact putSel_upk 10 hb_ rfl rfl rfl),Q_BK327,Q_HB,fun h0_=>absurd ((hoff 16 (by kernel_rfl)).symm.trans h0_) (by decide),fun h0_=>absurd ((hoff 19 (by kernel_rfl)).symm.trans h0_) (by decide)⟩
                 refine steps_cons ?_ ?_
                 ·
                  rintro b a w' ⟨v331,m19_,ha,Q_BK327,Q_HB,Q_HO332,Q_X19_⟩ hb_ hon hoff;refine ⟨_,rfl,fun K hK=>?_⟩;have e34:a.tmps[34]?=some (.pointer (some ⟨gb327,2,none⟩)):=by rw [ha];exact putSel_on (e:=(12,34,.pointer (some ⟨gb327,2,none⟩))) 10 rfl rfl (hon 12 (by kernel_rfl)) rfl
                  replace ha:=mk0 ha;have BK327:=mk0 Q_BK327;have HB:=mk0 Q_HB;have hc0_:w'.cell? ⟨gb327,0,none⟩=some (.int .u8 a2_0):=(blk_cell BK327.out 0).trans rfl;have hc1_:w'.cell? ⟨gb327,1,none⟩=some (.int .u8 a2_1):=(blk_cell BK327.out 1).trans rfl;have hc2_:w'.cell? ⟨gb327,2,none⟩=some (.int .u8 a2_2):=(blk_cell BK327.out 2).trans rfl;refine value_ (w1:=w') (v:=.int .u8 a2_2) (by rfl) rfl ?_ ?_
                  ·
                   go_simp;(try simp only [i64_w]);try rfl
                  refine hK.out _ _ ⟨v331,m19_,(by rw [ha.out];exact putSel_upk 11 hb_ rfl rfl rfl),Q_BK327,Q_HB,fun h0_=>absurd ((hoff 16 (by kernel_rfl)).symm.trans h0_) (by decide),fun h0_=>absurd ((hoff 19 (by kernel_rfl)).symm.trans h0_) (by decide)⟩
                 refine steps_cons ?_ ?_
                 ·
                  rintro b a w' ⟨v331,m19_,ha,Q_BK327,Q_HB,Q_HO332,Q_X19_⟩ hb_ hon hoff;refine ⟨_,rfl,fun K hK=>?_⟩;have e35:a.tmps[35]?=some (.int .u8 a2_2):=by rw [ha];exact putSel_on (e:=(13,35,.int .u8 a2_2)) 11 rfl rfl (hon 13 (by kernel_rfl)) rfl
                  replace ha:=mk0 ha;have BK327:=mk0 Q_BK327;have HB:=mk0 Q_HB;refine value_ (w1:=w') (v:=.int .i64 (wrap64 (a2_2))) (by rfl) rfl ?_ ?_
                  ·
                   go_simp;(try simp only [i64_w]);try rfl
                  refine hK.out _ _ ⟨v331,m19_,(by rw [ha.out];exact putSel_upk 12 hb_ rfl rfl rfl),Q_BK327,Q_HB,fun h0_=>absurd ((hoff 16 (by kernel_rfl)).symm.trans h0_) (by decide),fun h0_=>absurd ((hoff 19 (by kernel_rfl)).symm.trans h0_) (by decide)⟩
                 refine steps_cons ?_ ?_
                 ·
                  rintro b a w' ⟨v331,m19_,ha,Q_BK327,Q_HB,Q_HO332,Q_X19_⟩ hb_ hon hoff;refine ⟨_,rfl,fun K hK=>?_⟩;have e36:a.tmps[36]?=some (.int .i64 (wrap64 (a2_2))):=by rw [ha];exact putSel_on (e:=(14,36,.int .i64 (wrap64 (a2_2)))) 12 rfl rfl (hon 14 (by kernel_rfl)) rfl
                  replace ha:=mk0 ha;have BK327:=mk0 Q_BK327;have HB:=mk0 Q_HB;refine value_ (w1:=w') (v:=.int .i64 (Int.tmod (wrap64 (a2_2)) 5)) (by rfl) rfl ?_ ?_
                  ·
                   go_simp;(try simp only [i64_w]);try rfl
                  refine hK.out _ _ ⟨v331,m19_,(by rw [ha.out];exact putSel_upk 13 hb_ rfl rfl rfl),Q_BK327,Q_HB,fun h0_=>absurd ((hoff 16 (by kernel_rfl)).symm.trans h0_) (by decide),fun h0_=>absurd ((hoff 19 (by kernel_rfl)).symm.trans h0_) (by decide)⟩
                 refine steps_cons ?_ ?_
                 ·
                  rintro b a w' ⟨v331,m19_,ha,Q_BK327,Q_HB,Q_HO332,Q_X19_⟩ hb_ hon hoff;refine ⟨_,rfl,fun K hK=>?_⟩;have e29:a.tmps[29]?=some (.int .i64 (Int.tmod (wrap64 (a2_0)) 5)):=by rw [ha];exact putSel_on (e:=(7,29,.int .i64 (Int.tmod (wrap64 (a2_0)) 5))) 5 rfl rfl (hon 7 (by kernel_rfl)) rfl
                  have e33:a.tmps[33]?=some (.int .i64 (Int.tmod (wrap64 (a2_1)) 5)):=by rw [ha];exact putSel_on (e:=(11,33,.int .i64 (Int.tmod (wrap64 (a2_1)) 5))) 9 rfl rfl (hon 11 (by kernel_rfl)) rfl
                  have e37:a.tmps[37]?=some (.int .i64 (Int.tmod (wrap64 (a2_2)) 5)):=by rw [ha];exact putSel_on (e:=(15,37,.int .i64 (Int.tmod (wrap64 (a2_2)) 5))) 13 rfl rfl (hon 15 (by kernel_rfl)) rfl
                  replace ha:=mk0 ha;have BK327:=mk0 Q_BK327;have HB:=mk0 Q_HB;refine Kd.R_lit_step (Kd.int .i64) _ 3 ?hg (N:=38) ?hd (xs:=([Int.tmod (wrap64 (a2_0)) 5,Int.tmod (wrap64 (a2_1)) 5,Int.tmod (wrap64 (a2_2)) 5]:List Int)) (inner:=[.int .i64 (Int.tmod (wrap64 (a2_0)) 5),.int .i64 (Int.tmod (wrap64 (a2_1)) 5),.int .i64 (Int.tmod (wrap64 (a2_2)) 5)]) (ok:=fun _=>True) (okp:=fun _=>True) ?hr ?hp (fun _ hk=>hk) trivial (Below.refl _ _) (Nat.le_refl _) (by simp) ?_;(case hd=>rfl);(case hg=>rfl);(case hr=>first|(go_simp;done)|(go_simp;rfl));(case hp=>exact (Reps.one (show Kd.M (Kd.int .i64) _ _ _ (Int.tmod (wrap64 (a2_0)) 5) [.int .i64 (Int.tmod (wrap64 (a2_0)) 5)] from rfl) (Reps.one (show Kd.M (Kd.int .i64) _ _ _ (Int.tmod (wrap64 (a2_1)) 5) [.int .i64 (Int.tmod (wrap64 (a2_1)) 5)] from rfl) (Reps.one (show Kd.M (Kd.int .i64) _ _ _ (Int.tmod (wrap64 (a2_2)) 5) [.int .i64 (Int.tmod (wrap64 (a2_2)) 5)] from rfl) (Reps.none _ _)))));intro v331 w86 ho87 hb hg_ hnew_;clear hg_ hnew_;(first|rw [← Ny330.out] at ho87|(simp only [Int.reduceToNat] at ho87;rw [← Ny330.out] at ho87));have HO332:=mk0 (Kd.R_lower ho87 (below_size HB.out));replace BK327:=bkb BK327 hb;replace HB:=bst HB hb;clear hb ho87;refine hK.out _ _ ⟨v331,m19_,(by rw [ha.out];exact putSel_upk 14 hb_ rfl rfl rfl),BK327.out,HB.out,fun _=>HO332.out,fun h0_=>absurd ((hoff 19 (by kernel_rfl)).symm.trans h0_) (by decide)⟩
                 refine steps_cons ?_ ?_
                 ·
                  rintro b a w' ⟨v331,m19_,ha,Q_BK327,Q_HB,Q_HO332,Q_X19_⟩ hb_ hon hoff;refine ⟨_,rfl,fun K hK=>?_⟩;have e23:a.tmps[23]?=some (.string t328):=by rw [ha];exact putSel_on (e:=(1,23,.string t328)) 0 rfl rfl (hon 1 (by kernel_rfl)) rfl
                  replace ha:=mk0 ha;have BK327:=mk0 Q_BK327;have HB:=mk0 Q_HB;refine value_ (w1:=w') (v:=.string t328) (by rfl) rfl ?_ ?_
                  ·
                   go_simp;(try simp only [i64_w]);try rfl
                  refine hK.out _ _ ⟨v331,m19_,(by rw [ha.out];exact putSel_upk 15 hb_ rfl rfl rfl),Q_BK327,Q_HB,Q_HO332,fun h0_=>absurd ((hoff 19 (by kernel_rfl)).symm.trans h0_) (by decide)⟩
                 refine steps_cons ?_ ?_
                 ·
                  rintro b a w' ⟨v331,m19_,ha,Q_BK327,Q_HB,Q_HO332,Q_X19_⟩ hb_ hon hoff;refine ⟨_,rfl,fun K hK=>?_⟩;have e25:a.tmps[25]?=some (.string t329):=by rw [ha];exact putSel_on (e:=(3,25,.string t329)) 1 rfl rfl (hon 3 (by kernel_rfl)) rfl
                  replace ha:=mk0 ha;have BK327:=mk0 Q_BK327;have HB:=mk0 Q_HB;refine value_ (w1:=w') (v:=.string t329) (by rfl) rfl ?_ ?_
                  ·
                   go_simp;(try simp only [i64_w]);try rfl
                  refine hK.out _ _ ⟨v331,m19_,(by rw [ha.out];exact putSel_upk 16 hb_ rfl rfl rfl),Q_BK327,Q_HB,Q_HO332,fun h0_=>absurd ((hoff 19 (by kernel_rfl)).symm.trans h0_) (by decide)⟩
                 refine steps_cons ?_ ?_
                 ·
                  rintro b a w' ⟨v331,m19_,ha,Q_BK327,Q_HB,Q_HO332,Q_X19_⟩ hb_ hon hoff;refine ⟨_,rfl,fun K hK=>?_⟩;have e38:a.tmps[38]?=some (v331):=by rw [ha];exact putSel_on (e:=(16,38,v331)) 14 rfl rfl (hon 16 (by kernel_rfl)) rfl
                  replace ha:=mk0 ha;have BK327:=mk0 Q_BK327;have HB:=mk0 Q_HB;have HO332:=mk0 (Q_HO332 (hon 16 (by kernel_rfl)));refine value_ (w1:=w') (v:=v331) (by rfl) rfl ?_ ?_
                  ·
                   go_simp;(try simp only [i64_w]);try rfl
                  refine hK.out _ _ ⟨v331,(v331),(by rw [ha.out];exact putSel_upk 17 hb_ rfl rfl rfl),Q_BK327,Q_HB,Q_HO332,fun _=>rfl⟩
                 exact steps_nil
                rintro b a w90 hall ⟨v331,m19_,ha,Q_BK327,Q_HB,Q_HO332,Q_X19_⟩;clear BK327 HB;have hb1_:=hall 1 (by kernel_rfl);have hb3_:=hall 3 (by kernel_rfl);have hb4_:=hall 4 (by kernel_rfl);have hb5_:=hall 5 (by kernel_rfl);have hb6_:=hall 6 (by kernel_rfl);have hb7_:=hall 7 (by kernel_rfl);have hb8_:=hall 8 (by kernel_rfl);have hb9_:=hall 9 (by kernel_rfl);have hb10_:=hall 10 (by kernel_rfl);have hb11_:=hall 11 (by kernel_rfl);have hb12_:=hall 12 (by kernel_rfl);have hb13_:=hall 13 (by kernel_rfl);have hb14_:=hall 14 (by kernel_rfl);have hb15_:=hall 15 (by kernel_rfl);have hb16_:=hall 16 (by kernel_rfl);have hb17_:=hall 17 (by kernel_rfl);have hb18_:=hall 18 (by kernel_rfl);have hb19_:=hall 19 (by kernel_rfl);subst ha;obtain rfl:=Q_X19_ hb19_;simp only [putSel,hb1_,hb3_,hb4_,hb5_,hb6_,hb7_,hb8_,hb9_,hb10_,hb11_,hb12_,hb13_,hb14_,hb15_,hb16_,hb17_,hb18_,hb19_,if_true,Act.put,List.setIfInBounds_toArray,List.set_cons_zero,List.set_cons_succ];have BK327:=mk0 Q_BK327;clear Q_BK327;have HB:=mk0 Q_HB;clear Q_HB;have HO332:=mk0 (Q_HO332 hb16_);clear Q_HO332;clear hall hb1_ hb3_ hb4_ hb5_ hb6_ hb7_ hb8_ hb9_ hb10_ hb11_ hb12_ hb13_ hb14_ hb15_ hb16_ hb17_ hb18_ hb19_;obtain ⟨Ao91,co91,eo91⟩:=Kd.R_slice HO332.out;subst eo91;try go_wp2_with (first|((with_reducible refine gate_callee (f:=26) rfl ?_);refine goesL_ (some 45) rfl rfl Try.func26 (by kernel_rfl) rfl #[.string ((t328 ++ t329) ++ (⟨#[46]⟩:ByteArray)),.slice Ao91 y330.length co91] rfl (by (try simp only [List.map_toArray,List.map_cons,List.map_nil]);first|done|rfl|(simp only [List.length_drop,List.length_take];rfl)) ?_;(with_reducible refine (count_Accepts.calls k ((t328 ++ t329) ++ (⟨#[46]⟩:ByteArray)) _ _ y330 false t334 _ ?side1 ?side2 A8.out).mono ?_);(case side1=>repeat (first|exact (Kd.R_reads' HO332.out).2.2|(with_reducible refine Kd.C_alloc ?_ _)|(with_reducible refine Kd.C_drewN ?_ _)|(with_reducible refine Kd.C_drew ?_)));(case side2=>exact (Kd.R_reads' HO332.out).2.1);rintro e w92 ⟨rfl,hb⟩;refine ⟨_,rfl,?_⟩;replace HO332:=rbl HO332 hb;replace BK327:=bkb BK327 hb;replace HB:=bst HB hb;(try clear hb))|((with_reducible refine gate_callee (f:=26) rfl ?_);refine goesL_ (some 54) rfl rfl Try.func26 (by kernel_rfl) rfl #[.string ((t329 ++ t328) ++ (⟨#[46]⟩:ByteArray)),.slice Ao91 y330.length co91] rfl (by (try simp only [List.map_toArray,List.map_cons,List.map_nil]);first|done|rfl|(simp only [List.length_drop,List.length_take];rfl)) ?_;(with_reducible refine (count_Accepts.calls k ((t329 ++ t328) ++ (⟨#[46]⟩:ByteArray)) _ _ y330 false t336 _ ?side1 ?side2 A11.out).mono ?_);(case side1=>repeat (first|exact (Kd.R_reads' HO332.out).2.2|(with_reducible refine Kd.C_alloc ?_ _)|(with_reducible refine Kd.C_drewN ?_ _)|(with_reducible refine Kd.C_drew ?_)));(case side2=>exact (Kd.R_reads' HO332.out).2.1);rintro e w93 ⟨rfl,hb⟩;refine ⟨_,rfl,?_⟩;replace HO332:=rbl HO332 hb;replace BK327:=bkb BK327 hb;replace HB:=bst HB hb;(try clear hb))|((with_reducible refine gate_callee (f:=26) rfl ?_);refine goesL_ (some 63) rfl rfl Try.func26 (by kernel_rfl) rfl #[.string ((t328 ++ t329) ++ (⟨#[43]⟩:ByteArray)),.slice Ao91 y330.length co91] rfl (by (try simp only [List.map_toArray,List.map_cons,List.map_nil]);first|done|rfl|(simp only [List.length_drop,List.length_take];rfl)) ?_;(with_reducible refine (count_Accepts.calls k ((t328 ++ t329) ++ (⟨#[43]⟩:ByteArray)) _ _ y330 true t338 _ ?side1 ?side2 A12.out).mono ?_);(case side1=>repeat (first|exact (Kd.R_reads' HO332.out).2.2|(with_reducible refine Kd.C_alloc ?_ _)|(with_reducible refine Kd.C_drewN ?_ _)|(with_reducible refine Kd.C_drew ?_)));(case side2=>exact (Kd.R_reads' HO332.out).2.1);rintro e w94 ⟨rfl,hb⟩;refine ⟨_,rfl,?_⟩;replace HO332:=rbl HO332 hb;replace BK327:=bkb BK327 hb;replace HB:=bst HB hb;(try clear hb))|((with_reducible refine gate_callee (f:=26) rfl ?_);refine goesL_ (some 72) rfl rfl Try.func26 (by kernel_rfl) rfl #[.string ((t329 ++ t328) ++ (⟨#[43]⟩:ByteArray)),.slice Ao91 y330.length co91] rfl (by (try simp only [List.map_toArray,List.map_cons,List.map_nil]);first|done|rfl|(simp only [List.length_drop,List.length_take];rfl)) ?_;(with_reducible refine (count_Accepts.calls k ((t329 ++ t328) ++ (⟨#[43]⟩:ByteArray)) _ _ y330 true t340 _ ?side1 ?side2 A13.out).mono ?_);(case side1=>repeat (first|exact (Kd.R_reads' HO332.out).2.2|(with_reducible refine Kd.C_alloc ?_ _)|(with_reducible refine Kd.C_drewN ?_ _)|(with_reducible refine Kd.C_drew ?_)));(case side2=>exact (Kd.R_reads' HO332.out).2.1);rintro e w95 ⟨rfl,hb⟩;refine ⟨_,rfl,?_⟩;replace HO332:=rbl HO332 hb;replace BK327:=bkb BK327 hb;replace HB:=bst HB hb;(try clear hb))|((with_reducible refine gate_callee (f:=26) rfl ?_);refine goesL_ (some 78) rfl rfl Try.func26 (by kernel_rfl) rfl #[.string t328,.slice Ao91 y330.length co91] rfl (by (try simp only [List.map_toArray,List.map_cons,List.map_nil]);first|done|rfl|(simp only [List.length_drop,List.length_take];rfl)) ?_;(with_reducible refine (count_Accepts.calls k t328 _ _ y330 true t342 _ ?side1 ?side2 A14.out).mono ?_);(case side1=>repeat (first|exact (Kd.R_reads' HO332.out).2.2|(with_reducible refine Kd.C_alloc ?_ _)|(with_reducible refine Kd.C_drewN ?_ _)|(with_reducible refine Kd.C_drew ?_)));(case side2=>exact (Kd.R_reads' HO332.out).2.1);rintro e w96 ⟨rfl,hb⟩;refine ⟨_,rfl,?_⟩;replace HO332:=rbl HO332 hb;replace BK327:=bkb BK327 hb;replace HB:=bst HB hb;(try clear hb))|((with_reducible refine gate_callee (f:=26) rfl ?_);refine goesL_ (some 84) rfl rfl Try.func26 (by kernel_rfl) rfl #[.string t329,.slice Ao91 y330.length co91] rfl (by (try simp only [List.map_toArray,List.map_cons,List.map_nil]);first|done|rfl|(simp only [List.length_drop,List.length_take];rfl)) ?_;(with_reducible refine (count_Accepts.calls k t329 _ _ y330 t343 t344 _ ?side1 ?side2 A15.out).mono ?_);(case side1=>repeat (first|exact (Kd.R_reads' HO332.out).2.2|(with_reducible refine Kd.C_alloc ?_ _)|(with_reducible refine Kd.C_drewN ?_ _)|(with_reducible refine Kd.C_drew ?_)));(case side2=>exact (Kd.R_reads' HO332.out).2.1);rintro e w97 ⟨rfl,hb⟩;refine ⟨_,rfl,?_⟩;replace HO332:=rbl HO332 hb;replace BK327:=bkb BK327 hb;replace HB:=bst HB hb;(try clear hb))|(go_at_call 22;(with_reducible refine (bellpulllaw05_lives.calls k  t348 _ A83.out).mono ?_);rintro e w98 ⟨rfl,hb⟩;replace HO332:=rbl HO332 hb;replace BK327:=bkb BK327 hb;replace HB:=bst HB hb;(try clear hb)))
                go_ret;exact ⟨by first|rfl|(simp [errW_none,errW_some] <;> rfl)|(simp [*,errW_none,errW_some] <;> rfl),by repeat (first|(with_reducible first|exact HB.out|apply below_alloc|apply pw_below_drewN|apply below_drew1|refine below_set ?_ GE327.out)|exact HB.out)⟩
               ·
                replace c82:=Bool.eq_false_iff.mpr c82;subst c82;have H1:(if t343=true then ((bellpulllaw05_lives.f k).bind fun t349=>(some t349)) else (none))=some r:=by rw [if_neg (show ¬ (false=true) by decide)] at H;exact H
                clear H;have H:=H1;clear H1
                by_cases c99:t343=true
                ·
                 subst c99;have H1:((bellpulllaw05_lives.f k).bind fun t349=>(some t349))=some r:=by rw [if_pos rfl] at H;exact H
                 clear H;have H:=H1;clear H1;replace H:=Option.bind_eq_some_iff.mp H;obtain ⟨t349,A1000,H⟩:=H;(try dsimp only at H);have A100:=mk0 A1000;clear A1000;obtain rfl:=Option.some.inj H;go_enter Try.func9,Try.ntmps9;try go_wp2_with (first|((with_reducible refine gate_dst (N:=5) rfl ?_);refine box_event ?hg (N:=5) ?hd (cs:=#[.int .u8 a2_0,.int .u8 a2_1,.int .u8 a2_2]) (t:=51) ?hr ?_;(case hd=>rfl);(case hg=>rfl);(case hr=>first|(go_simp;done)|(go_simp;rfl));intro gb327 hg w101 hbox hb;have BK327:=mk0 (hbox);have GW327:=szw hg HB;have GE327:=GW327;replace HB:=bst HB hb;clear hb hbox hg))
                 replace BK327:=bdr BK327;replace HB:=hdr HB;refine start_ (n:=20) (S:=fun w'=>True) (ds:=[]) #[false,false,false,false,false,false,false,false,false,false,false,false,false,false,false,false,false,false,false,false] (by kernel_rfl) rfl rfl trivial (fun hHeld=>?_);refine with_tabW bellpulllaw05_CountCommutes.tab1 bellpulllaw05_CountCommutes.bits1 (fun HT_ HW_=>?_);generalize w101.drew=w102 at BK327 HB hHeld ⊢;refine pure_ (i:=0) (N:=some 22) (v:=?_) (a':=?_) #[true,false,false,false,false,false,false,false,false,false,false,false,false,false,false,false,false,false,false,false] rfl rfl (any_of HT_.out (by kernel_rfl)) (fun _ _ _ h=>h) (Or.inl ⟨by rfl,?_⟩) ?_ ?_;rotate_left
                 ·
                  intro w';go_simp;with_reducible rfl
                 rotate_left
                 ·
                  simp only [Act.put,List.setIfInBounds_toArray,List.set_cons_zero,List.set_cons_succ,i64_w,i32_w];rfl
                 refine pure_ (i:=2) (N:=some 24) (v:=?_) (a':=?_) #[true,false,true,false,false,false,false,false,false,false,false,false,false,false,false,false,false,false,false,false] rfl rfl (any_of HT_.out (by kernel_rfl)) (fun _ _ _ h=>h) (Or.inl ⟨by rfl,?_⟩) ?_ ?_;rotate_left
                 ·
                  intro w';go_simp;with_reducible rfl
                 rotate_left
                 ·
                  simp only [Act.put,List.setIfInBounds_toArray,List.set_cons_zero,List.set_cons_succ,i64_w,i32_w];rfl
                 refine inv_at [1,3,4,5,6,7,8,9,10,11,12,13,14,15,16,17,18,19] (fun a0_ b a w'=>∃ (v331:Value) (m19_:Value),a=putSel a0_ b [(1,23,.string t328),(3,25,.string t329),(4,26,.pointer (some ⟨gb327,0,none⟩)),(5,27,.int .u8 a2_0),(6,28,.int .i64 (wrap64 (a2_0))),(7,29,.int .i64 (Int.tmod (wrap64 (a2_0)) 5)),(8,30,.pointer (some ⟨gb327,1,none⟩)),(9,31,.int .u8 a2_1),(10,32,.int .i64 (wrap64 (a2_1))),(11,33,.int .i64 (Int.tmod (wrap64 (a2_1)) 5)),(12,34,.pointer (some ⟨gb327,2,none⟩)),(13,35,.int .u8 a2_2),(14,36,.int .i64 (wrap64 (a2_2))),(15,37,.int .i64 (Int.tmod (wrap64 (a2_2)) 5)),(16,38,v331),(17,7,.string t328),(18,8,.string t329),(19,9,m19_)]∧(w'.heap[gb327]?=some (.cells #[.int .u8 a2_0,.int .u8 a2_1,.int .u8 a2_2] 51 (0,0)))∧(Below w.heap.size w w')∧(b 16=true → Kd.R (Kd.int .i64) 3 w' w.heap.size (fun _=>True) v331 y330)∧(b 19=true → (m19_:Value)=v331)) HT_.out HW_.out (by kernel_rfl) (by kernel_rfl) ?_ ?_ ?_
                 ·
                  exact ⟨.bool false,.bool false,by simp only [putSel,Bool.false_eq_true,if_false],BK327.out,HB.out,fun h_=>absurd h_ (by decide),fun h_=>absurd h_ (by decide)⟩
                 ·
                  skip
                  clear BK327 HB;refine steps_cons ?_ ?_
                  ·
                   rintro b a w' ⟨v331,m19_,ha,Q_BK327,Q_HB,Q_HO332,Q_X19_⟩ hb_ hon hoff;refine ⟨_,rfl,fun K hK=>?_⟩;have e22:a.tmps[22]?=some (.slice A0 l0.length c0):=by rw [ha];exact (putSel_off rfl).trans rfl
                   replace ha:=mk0 ha;have BK327:=mk0 Q_BK327;have HB:=mk0 Q_HB;refine goes_ Try.func32 (by kernel_rfl) rfl #[.slice A0 l0.length c0,.int .i64 10] (by rfl) rfl rfl (by first|(simp only [List.map_toArray,List.map_cons,List.map_nil,Act.eval,Array.getD_eq_getD_getElem?,Option.getD_some,e22];done)|(simp only [List.map_toArray,List.map_cons,List.map_nil,Act.eval,Array.getD_eq_getD_getElem?,Option.getD_some,e22];rfl)) ?_;with_reducible refine (bellpulllaw05_code.calls k _ _ l0 10 t328 _ ?side1 ?side2 A4.out).mono ?_
                   (case side1=>repeat (first|exact (Kd.C_below HR0.out HB.out)|(with_reducible refine Kd.C_alloc ?_ _)|(with_reducible refine Kd.C_drewN ?_ _)|(with_reducible refine Kd.C_drew ?_)));(case side2=>exact HC0.out);rintro e w103 ⟨rfl,hb⟩;refine ⟨_,rfl,?_⟩;have n0_:=bkb BK327 hb;have n1_:=bst HB hb;have z_HO332:=fun (h0_:b 16=true)=>(show Kd.R (Kd.int .i64) 3 w103 w.heap.size (fun _=>True) v331 y330 from by first|exact (Kd.R_below (by (with_reducible repeat (first|apply Kd.R_alloc|apply Kd.R_drewN|apply Kd.R_drew));exact (Q_HO332 h0_)) hb)|exact Kd.R_mono (Kd.R_below (by (with_reducible repeat (first|apply Kd.R_alloc|apply Kd.R_drewN|apply Kd.R_drew));exact (Q_HO332 h0_)) hb) (fun _ h_=>by first|trivial|exact h_|exact h_.1))
                   clear BK327;clear HB;have BK327:=n0_;have HB:=n1_;clear n0_ n1_;(try clear hb);refine hK.out _ _ ⟨v331,m19_,(by rw [ha.out];exact putSel_upk 0 hb_ rfl rfl rfl),BK327.out,HB.out,z_HO332,fun h0_=>absurd ((hoff 19 (by kernel_rfl)).symm.trans h0_) (by decide)⟩
                  refine steps_cons ?_ ?_
                  ·
                   rintro b a w' ⟨v331,m19_,ha,Q_BK327,Q_HB,Q_HO332,Q_X19_⟩ hb_ hon hoff;refine ⟨_,rfl,fun K hK=>?_⟩;have e24:a.tmps[24]?=some (.slice A1 l1.length c1):=by rw [ha];exact (putSel_off rfl).trans rfl
                   replace ha:=mk0 ha;have BK327:=mk0 Q_BK327;have HB:=mk0 Q_HB;refine goes_ Try.func32 (by kernel_rfl) rfl #[.slice A1 l1.length c1,.int .i64 10] (by rfl) rfl rfl (by first|(simp only [List.map_toArray,List.map_cons,List.map_nil,Act.eval,Array.getD_eq_getD_getElem?,Option.getD_some,e24];done)|(simp only [List.map_toArray,List.map_cons,List.map_nil,Act.eval,Array.getD_eq_getD_getElem?,Option.getD_some,e24];rfl)) ?_;with_reducible refine (bellpulllaw05_code.calls k _ _ l1 10 t329 _ ?side1 ?side2 A5.out).mono ?_
                   (case side1=>repeat (first|exact (Kd.C_below HR1.out HB.out)|(with_reducible refine Kd.C_alloc ?_ _)|(with_reducible refine Kd.C_drewN ?_ _)|(with_reducible refine Kd.C_drew ?_)));(case side2=>exact HC1.out);rintro e w105 ⟨rfl,hb⟩;refine ⟨_,rfl,?_⟩;have n0_:=bkb BK327 hb;have n1_:=bst HB hb;have z_HO332:=fun (h0_:b 16=true)=>(show Kd.R (Kd.int .i64) 3 w105 w.heap.size (fun _=>True) v331 y330 from by first|exact (Kd.R_below (by (with_reducible repeat (first|apply Kd.R_alloc|apply Kd.R_drewN|apply Kd.R_drew));exact (Q_HO332 h0_)) hb)|exact Kd.R_mono (Kd.R_below (by (with_reducible repeat (first|apply Kd.R_alloc|apply Kd.R_drewN|apply Kd.R_drew));exact (Q_HO332 h0_)) hb) (fun _ h_=>by first|trivial|exact h_|exact h_.1))
                   clear BK327;clear HB;have BK327:=n0_;have HB:=n1_;clear n0_ n1_;(try clear hb);refine hK.out _ _ ⟨v331,m19_,(by rw [ha.out];exact putSel_upk 1 hb_ rfl rfl rfl),BK327.out,HB.out,z_HO332,fun h0_=>absurd ((hoff 19 (by kernel_rfl)).symm.trans h0_) (by decide)⟩
                  refine steps_cons ?_ ?_
                  ·
                   rintro b a w' ⟨v331,m19_,ha,Q_BK327,Q_HB,Q_HO332,Q_X19_⟩ hb_ hon hoff;refine ⟨_,rfl,fun K hK=>?_⟩;have e5:a.tmps[5]?=some (.pointer (some ⟨gb327,0,none⟩)):=by rw [ha];exact (putSel_off rfl).trans rfl
                   replace ha:=mk0 ha;have BK327:=mk0 Q_BK327;have HB:=mk0 Q_HB;refine value_ (w1:=w') (v:=.pointer (some ⟨gb327,0,none⟩)) (by rfl) rfl ?_ ?_
                   ·
                    go_simp;(try simp only [i64_w]);try rfl
                   refine hK.out _ _ ⟨v331,m19_,(by rw [ha.out];exact putSel_upk 2 hb_ rfl rfl rfl),Q_BK327,Q_HB,fun h0_=>absurd ((hoff 16 (by kernel_rfl)).symm.trans h0_) (by decide),fun h0_=>absurd ((hoff 19 (by kernel_rfl)).symm.trans h0_) (by decide)⟩
                  refine steps_cons ?_ ?_
                  ·
                   rintro b a w' ⟨v331,m19_,ha,Q_BK327,Q_HB,Q_HO332,Q_X19_⟩ hb_ hon hoff;refine ⟨_,rfl,fun K hK=>?_⟩;have e26:a.tmps[26]?=some (.pointer (some ⟨gb327,0,none⟩)):=by rw [ha];exact putSel_on (e:=(4,26,.pointer (some ⟨gb327,0,none⟩))) 2 rfl rfl (hon 4 (by kernel_rfl)) rfl
                   replace ha:=mk0 ha;have BK327:=mk0 Q_BK327;have HB:=mk0 Q_HB;have hc0_:w'.cell? ⟨gb327,0,none⟩=some (.int .u8 a2_0):=(blk_cell BK327.out 0).trans rfl;have hc1_:w'.cell? ⟨gb327,1,none⟩=some (.int .u8 a2_1):=(blk_cell BK327.out 1).trans rfl;have hc2_:w'.cell? ⟨gb327,2,none⟩=some (.int .u8 a2_2):=(blk_cell BK327.out 2).trans rfl;refine value_ (w1:=w') (v:=.int .u8 a2_0) (by rfl) rfl ?_ ?_
                   ·
                    go_simp;(try simp only [i64_w]);try rfl
                   refine hK.out _ _ ⟨v331,m19_,(by rw [ha.out];exact putSel_upk 3 hb_ rfl rfl rfl),Q_BK327,Q_HB,fun h0_=>absurd ((hoff 16 (by kernel_rfl)).symm.trans h0_) (by decide),fun h0_=>absurd ((hoff 19 (by kernel_rfl)).symm.trans h0_) (by decide)⟩
                  refine steps_cons ?_ ?_
                  ·
                   rintro b a w' ⟨v331,m19_,ha,Q_BK327,Q_HB,Q_HO332,Q_X19_⟩ hb_ hon hoff;refine ⟨_,rfl,fun K hK=>?_⟩;have e27:a.tmps[27]?=some (.int .u8 a2_0):=by rw [ha];exact putSel_on (e:=(5,27,.int .u8 a2_0)) 3 rfl rfl (hon 5 (by kernel_rfl)) rfl
                   replace ha:=mk0 ha;have BK327:=mk0 Q_BK327;have HB:=mk0 Q_HB;refine value_ (w1:=w') (v:=.int .i64 (wrap64 (a2_0))) (by rfl) rfl ?_ ?_
                   ·
                    go_simp;(try simp only [i64_w]);try rfl
                   refine hK.out _ _ ⟨v331,m19_,(by rw [ha.out];exact putSel_upk 4 hb_ rfl rfl rfl),Q_BK327,Q_HB,fun h0_=>absurd ((hoff 16 (by kernel_rfl)).symm.trans h0_) (by decide),fun h0_=>absurd ((hoff 19 (by kernel_rfl)).symm.trans h0_) (by decide)⟩
                  refine steps_cons ?_ ?_
                  ·
                   rintro b a w' ⟨v331,m19_,ha,Q_BK327,Q_HB,Q_HO332,Q_X19_⟩ hb_ hon hoff;refine ⟨_,rfl,fun K hK=>?_⟩;have e28:a.tmps[28]?=some (.int .i64 (wrap64 (a2_0))):=by rw [ha];exact putSel_on (e:=(6,28,.int .i64 (wrap64 (a2_0)))) 4 rfl rfl (hon 6 (by kernel_rfl)) rfl
                   replace ha:=mk0 ha;have BK327:=mk0 Q_BK327;have HB:=mk0 Q_HB;refine value_ (w1:=w') (v:=.int .i64 (Int.tmod (wrap64 (a2_0)) 5)) (by rfl) rfl ?_ ?_
                   ·
                    go_simp;(try simp only [i64_w]);try rfl
                   refine hK.out _ _ ⟨v331,m19_,(by rw [ha.out];exact putSel_upk 5 hb_ rfl rfl rfl),Q_BK327,Q_HB,fun h0_=>absurd ((hoff 16 (by kernel_rfl)).symm.trans h0_) (by decide),fun h0_=>absurd ((hoff 19 (by kernel_rfl)).symm.trans h0_) (by decide)⟩
                  refine steps_cons ?_ ?_
                  ·
                   rintro b a w' ⟨v331,m19_,ha,Q_BK327,Q_HB,Q_HO332,Q_X19_⟩ hb_ hon hoff;refine ⟨_,rfl,fun K hK=>?_⟩;have e5:a.tmps[5]?=some (.pointer (some ⟨gb327,0,none⟩)):=by rw [ha];exact (putSel_off rfl).trans rfl
                   replace ha:=mk0 ha;have BK327:=mk0 Q_BK327;have HB:=mk0 Q_HB;refine value_ (w1:=w') (v:=.pointer (some ⟨gb327,1,none⟩)) (by rfl) rfl ?_ ?_
                   ·
                    go_simp;(try simp only [i64_w]);try rfl
                   refine hK.out _ _ ⟨v331,m19_,(by rw [ha.out];exact putSel_upk 6 hb_ rfl rfl rfl),Q_BK327,Q_HB,fun h0_=>absurd ((hoff 16 (by kernel_rfl)).symm.trans h0_) (by decide),fun h0_=>absurd ((hoff 19 (by kernel_rfl)).symm.trans h0_) (by decide)⟩
                  refine steps_cons ?_ ?_
                  ·
                   rintro b a w' ⟨v331,m19_,ha,Q_BK327,Q_HB,Q_HO332,Q_X19_⟩ hb_ hon hoff;refine ⟨_,rfl,fun K hK=>?_⟩;have e30:a.tmps[30]?=some (.pointer (some ⟨gb327,1,none⟩)):=by rw [ha];exact putSel_on (e:=(8,30,.pointer (some ⟨gb327,1,none⟩))) 6 rfl rfl (hon 8 (by kernel_rfl)) rfl
                   replace ha:=mk0 ha;have BK327:=mk0 Q_BK327;have HB:=mk0 Q_HB;have hc0_:w'.cell? ⟨gb327,0,none⟩=some (.int .u8 a2_0):=(blk_cell BK327.out 0).trans rfl;have hc1_:w'.cell? ⟨gb327,1,none⟩=some (.int .u8 a2_1):=(blk_cell BK327.out 1).trans rfl;have hc2_:w'.cell? ⟨gb327,2,none⟩=some (.int .u8 a2_2):=(blk_cell BK327.out 2).trans rfl;refine value_ (w1:=w') (v:=.int .u8 a2_1) (by rfl) rfl ?_ ?_
                   ·
                    go_simp;(try simp only [i64_w]);try rfl
                   refine hK.out _ _ ⟨v331,m19_,(by rw [ha.out];exact putSel_upk 7 hb_ rfl rfl rfl),Q_BK327,Q_HB,fun h0_=>absurd ((hoff 16 (by kernel_rfl)).symm.trans h0_) (by decide),fun h0_=>absurd ((hoff 19 (by kernel_rfl)).symm.trans h0_) (by decide)⟩
                  refine steps_cons ?_ ?_
                  ·
                   rintro b a w' ⟨v331,m19_,ha,Q_BK327,Q_HB,Q_HO332,Q_X19_⟩ hb_ hon hoff;refine ⟨_,rfl,fun K hK=>?_⟩;have e31:a.tmps[31]?=some (.int .u8 a2_1):=by rw [ha];exact putSel_on (e:=(9,31,.int .u8 a2_1)) 7 rfl rfl (hon 9 (by kernel_rfl)) rfl
                   replace ha:=mk0 ha;have BK327:=mk0 Q_BK327;have HB:=mk0 Q_HB;refine value_ (w1:=w') (v:=.int .i64 (wrap64 (a2_1))) (by rfl) rfl ?_ ?_
                   ·
                    go_simp;(try simp only [i64_w]);try rfl
                   refine hK.out _ _ ⟨v331,m19_,(by rw [ha.out];exact putSel_upk 8 hb_ rfl rfl rfl),Q_BK327,Q_HB,fun h0_=>absurd ((hoff 16 (by kernel_rfl)).symm.trans h0_) (by decide),fun h0_=>absurd ((hoff 19 (by kernel_rfl)).symm.trans h0_) (by decide)⟩
                  refine steps_cons ?_ ?_
                  ·
                   rintro b a w' ⟨v331,m19_,ha,Q_BK327,Q_HB,Q_HO332,Q_X19_⟩ hb_ hon hoff;refine ⟨_,rfl,fun K hK=>?_⟩;have e32:a.tmps[32]?=some (.int .i64 (wrap64 (a2_1))):=by rw [ha];exact putSel_on (e:=(10,32,.int .i64 (wrap64 (a2_1)))) 8 rfl rfl (hon 10 (by kernel_rfl)) rfl
                   replace ha:=mk0 ha;have BK327:=mk0 Q_BK327;have HB:=mk0 Q_HB;refine value_ (w1:=w') (v:=.int .i64 (Int.tmod (wrap64 (a2_1)) 5)) (by rfl) rfl ?_ ?_
                   ·
                    go_simp;(try simp only [i64_w]);try rfl
                   refine hK.out _ _ ⟨v331,m19_,(by rw [ha.out];exact putSel_upk 9 hb_ rfl rfl rfl),Q_BK327,Q_HB,fun h0_=>absurd ((hoff 16 (by kernel_rfl)).symm.trans h0_) (by decide),fun h0_=>absurd ((hoff 19 (by kernel_rfl)).symm.trans h0_) (by decide)⟩
                  refine steps_cons ?_ ?_
                  ·
                   rintro b a w' ⟨v331,m19_,ha,Q_BK327,Q_HB,Q_HO332,Q_X19_⟩ hb_ hon hoff;refine ⟨_,rfl,fun K hK=>?_⟩;have e5:a.tmps[5]?=some (.pointer (some ⟨gb327,0,none⟩)):=by rw [ha];exact (putSel_off rfl).trans rfl
                   replace ha:=mk0 ha;have BK327:=mk0 Q_BK327;have HB:=mk0 Q_HB;refine value_ (w1:=w') (v:=.pointer (some ⟨gb327,2,none⟩)) (by rfl) rfl ?_ ?_
                   ·
                    go_simp;(try simp only [i64_w]);try rfl
                   refine hK.out _ _ ⟨v331,m19_,(by rw [ha.out];exact putSel_upk 10 hb_ rfl rfl rfl),Q_BK327,Q_HB,fun h0_=>absurd ((hoff 16 (by kernel_rfl)).symm.trans h0_) (by decide),fun h0_=>absurd ((hoff 19 (by kernel_rfl)).symm.trans h0_) (by decide)⟩
                  refine steps_cons ?_ ?_
                  ·
                   rintro b a w' ⟨v331,m19_,ha,Q_BK327,Q_HB,Q_HO332,Q_X19_⟩ hb_ hon hoff;refine ⟨_,rfl,fun K hK=>?_⟩;have e34:a.tmps[34]?=some (.pointer (some ⟨gb327,2,none⟩)):=by rw [ha];exact putSel_on (e:=(12,34,.pointer (some ⟨gb327,2,none⟩))) 10 rfl rfl (hon 12 (by kernel_rfl)) rfl
                   replace ha:=mk0 ha;have BK327:=mk0 Q_BK327;have HB:=mk0 Q_HB;have hc0_:w'.cell? ⟨gb327,0,none⟩=some (.int .u8 a2_0):=(blk_cell BK327.out 0).trans rfl;have hc1_:w'.cell? ⟨gb327,1,none⟩=some (.int .u8 a2_1):=(blk_cell BK327.out 1).trans rfl;have hc2_:w'.cell? ⟨gb327,2,none⟩=some (.int .u8 a2_2):=(blk_cell BK327.out 2).trans rfl;refine value_ (w1:=w') (v:=.int .u8 a2_2) (by rfl) rfl ?_ ?_
                   ·
                    go_simp;(try simp only [i64_w]);try rfl
                   refine hK.out _ _ ⟨v331,m19_,(by rw [ha.out];exact putSel_upk 11 hb_ rfl rfl rfl),Q_BK327,Q_HB,fun h0_=>absurd ((hoff 16 (by kernel_rfl)).symm.trans h0_) (by decide),fun h0_=>absurd ((hoff 19 (by kernel_rfl)).symm.trans h0_) (by decide)⟩
                  refine steps_cons ?_ ?_
                  ·
                   rintro b a w' ⟨v331,m19_,ha,Q_BK327,Q_HB,Q_HO332,Q_X19_⟩ hb_ hon hoff;refine ⟨_,rfl,fun K hK=>?_⟩;have e35:a.tmps[35]?=some (.int .u8 a2_2):=by rw [ha];exact putSel_on (e:=(13,35,.int .u8 a2_2)) 11 rfl rfl (hon 13 (by kernel_rfl)) rfl
                   replace ha:=mk0 ha;have BK327:=mk0 Q_BK327;have HB:=mk0 Q_HB;refine value_ (w1:=w') (v:=.int .i64 (wrap64 (a2_2))) (by rfl) rfl ?_ ?_
                   ·
                    go_simp;(try simp only [i64_w]);try rfl
                   refine hK.out _ _ ⟨v331,m19_,(by rw [ha.out];exact putSel_upk 12 hb_ rfl rfl rfl),Q_BK327,Q_HB,fun h0_=>absurd ((hoff 16 (by kernel_rfl)).symm.trans h0_) (by decide),fun h0_=>absurd ((hoff 19 (by kernel_rfl)).symm.trans h0_) (by decide)⟩
                  refine steps_cons ?_ ?_
                  ·
                   rintro b a w' ⟨v331,m19_,ha,Q_BK327,Q_HB,Q_HO332,Q_X19_⟩ hb_ hon hoff;refine ⟨_,rfl,fun K hK=>?_⟩;have e36:a.tmps[36]?=some (.int .i64 (wrap64 (a2_2))):=by rw [ha];exact putSel_on (e:=(14,36,.int .i64 (wrap64 (a2_2)))) 12 rfl rfl (hon 14 (by kernel_rfl)) rfl
                   replace ha:=mk0 ha;have BK327:=mk0 Q_BK327;have HB:=mk0 Q_HB;refine value_ (w1:=w') (v:=.int .i64 (Int.tmod (wrap64 (a2_2)) 5)) (by rfl) rfl ?_ ?_
                   ·
                    go_simp;(try simp only [i64_w]);try rfl
                   refine hK.out _ _ ⟨v331,m19_,(by rw [ha.out];exact putSel_upk 13 hb_ rfl rfl rfl),Q_BK327,Q_HB,fun h0_=>absurd ((hoff 16 (by kernel_rfl)).symm.trans h0_) (by decide),fun h0_=>absurd ((hoff 19 (by kernel_rfl)).symm.trans h0_) (by decide)⟩
                  refine steps_cons ?_ ?_
                  ·
                   rintro b a w' ⟨v331,m19_,ha,Q_BK327,Q_HB,Q_HO332,Q_X19_⟩ hb_ hon hoff;refine ⟨_,rfl,fun K hK=>?_⟩;have e29:a.tmps[29]?=some (.int .i64 (Int.tmod (wrap64 (a2_0)) 5)):=by rw [ha];exact putSel_on (e:=(7,29,.int .i64 (Int.tmod (wrap64 (a2_0)) 5))) 5 rfl rfl (hon 7 (by kernel_rfl)) rfl
                   have e33:a.tmps[33]?=some (.int .i64 (Int.tmod (wrap64 (a2_1)) 5)):=by rw [ha];exact putSel_on (e:=(11,33,.int .i64 (Int.tmod (wrap64 (a2_1)) 5))) 9 rfl rfl (hon 11 (by kernel_rfl)) rfl
                   have e37:a.tmps[37]?=some (.int .i64 (Int.tmod (wrap64 (a2_2)) 5)):=by rw [ha];exact putSel_on (e:=(15,37,.int .i64 (Int.tmod (wrap64 (a2_2)) 5))) 13 rfl rfl (hon 15 (by kernel_rfl)) rfl
                   replace ha:=mk0 ha;have BK327:=mk0 Q_BK327;have HB:=mk0 Q_HB;refine Kd.R_lit_step (Kd.int .i64) _ 3 ?hg (N:=38) ?hd (xs:=([Int.tmod (wrap64 (a2_0)) 5,Int.tmod (wrap64 (a2_1)) 5,Int.tmod (wrap64 (a2_2)) 5]:List Int)) (inner:=[.int .i64 (Int.tmod (wrap64 (a2_0)) 5),.int .i64 (Int.tmod (wrap64 (a2_1)) 5),.int .i64 (Int.tmod (wrap64 (a2_2)) 5)]) (ok:=fun _=>True) (okp:=fun _=>True) ?hr ?hp (fun _ hk=>hk) trivial (Below.refl _ _) (Nat.le_refl _) (by simp) ?_;(case hd=>rfl);(case hg=>rfl);(case hr=>first|(go_simp;done)|(go_simp;rfl));(case hp=>exact (Reps.one (show Kd.M (Kd.int .i64) _ _ _ (Int.tmod (wrap64 (a2_0)) 5) [.int .i64 (Int.tmod (wrap64 (a2_0)) 5)] from rfl) (Reps.one (show Kd.M (Kd.int .i64) _ _ _ (Int.tmod (wrap64 (a2_1)) 5) [.int .i64 (Int.tmod (wrap64 (a2_1)) 5)] from rfl) (Reps.one (show Kd.M (Kd.int .i64) _ _ _ (Int.tmod (wrap64 (a2_2)) 5) [.int .i64 (Int.tmod (wrap64 (a2_2)) 5)] from rfl) (Reps.none _ _)))));intro v331 w103 ho104 hb hg_ hnew_;clear hg_ hnew_;(first|rw [← Ny330.out] at ho104|(simp only [Int.reduceToNat] at ho104;rw [← Ny330.out] at ho104));have HO332:=mk0 (Kd.R_lower ho104 (below_size HB.out));replace BK327:=bkb BK327 hb;replace HB:=bst HB hb;clear hb ho104;refine hK.out _ _ ⟨v331,m19_,(by rw [ha.out];exact putSel_upk 14 hb_ rfl rfl rfl),BK327.out,HB.out,fun _=>HO332.out,fun h0_=>absurd ((hoff 19 (by kernel_rfl)).symm.trans h0_) (by decide)⟩
                  refine steps_cons ?_ ?_
                  ·
                   rintro b a w' ⟨v331,m19_,ha,Q_BK327,Q_HB,Q_HO332,Q_X19_⟩ hb_ hon hoff;refine ⟨_,rfl,fun K hK=>?_⟩;have e23:a.tmps[23]?=some (.string t328):=by rw [ha];exact putSel_on (e:=(1,23,.string t328)) 0 rfl rfl (hon 1 (by kernel_rfl)) rfl
                   replace ha:=mk0 ha;have BK327:=mk0 Q_BK327;have HB:=mk0 Q_HB;refine value_ (w1:=w') (v:=.string t328) (by rfl) rfl ?_ ?_
                   ·
                    go_simp;(try simp only [i64_w]);try rfl
                   refine hK.out _ _ ⟨v331,m19_,(by rw [ha.out];exact putSel_upk 15 hb_ rfl rfl rfl),Q_BK327,Q_HB,Q_HO332,fun h0_=>absurd ((hoff 19 (by kernel_rfl)).symm.trans h0_) (by decide)⟩
                  refine steps_cons ?_ ?_
                  ·
                   rintro b a w' ⟨v331,m19_,ha,Q_BK327,Q_HB,Q_HO332,Q_X19_⟩ hb_ hon hoff;refine ⟨_,rfl,fun K hK=>?_⟩;have e25:a.tmps[25]?=some (.string t329):=by rw [ha];exact putSel_on (e:=(3,25,.string t329)) 1 rfl rfl (hon 3 (by kernel_rfl)) rfl
                   replace ha:=mk0 ha;have BK327:=mk0 Q_BK327;have HB:=mk0 Q_HB;refine value_ (w1:=w') (v:=.string t329) (by rfl) rfl ?_ ?_
                   ·
                    go_simp;(try simp only [i64_w]);try rfl
                   refine hK.out _ _ ⟨v331,m19_,(by rw [ha.out];exact putSel_upk 16 hb_ rfl rfl rfl),Q_BK327,Q_HB,Q_HO332,fun h0_=>absurd ((hoff 19 (by kernel_rfl)).symm.trans h0_) (by decide)⟩
                  refine steps_cons ?_ ?_
                  ·
                   rintro b a w' ⟨v331,m19_,ha,Q_BK327,Q_HB,Q_HO332,Q_X19_⟩ hb_ hon hoff;refine ⟨_,rfl,fun K hK=>?_⟩;have e38:a.tmps[38]?=some (v331):=by rw [ha];exact putSel_on (e:=(16,38,v331)) 14 rfl rfl (hon 16 (by kernel_rfl)) rfl
                   replace ha:=mk0 ha;have BK327:=mk0 Q_BK327;have HB:=mk0 Q_HB;have HO332:=mk0 (Q_HO332 (hon 16 (by kernel_rfl)));refine value_ (w1:=w') (v:=v331) (by rfl) rfl ?_ ?_
                   ·
                    go_simp;(try simp only [i64_w]);try rfl
                   refine hK.out _ _ ⟨v331,(v331),(by rw [ha.out];exact putSel_upk 17 hb_ rfl rfl rfl),Q_BK327,Q_HB,Q_HO332,fun _=>rfl⟩
                  exact steps_nil
                 rintro b a w107 hall ⟨v331,m19_,ha,Q_BK327,Q_HB,Q_HO332,Q_X19_⟩;clear BK327 HB;have hb1_:=hall 1 (by kernel_rfl);have hb3_:=hall 3 (by kernel_rfl);have hb4_:=hall 4 (by kernel_rfl);have hb5_:=hall 5 (by kernel_rfl);have hb6_:=hall 6 (by kernel_rfl);have hb7_:=hall 7 (by kernel_rfl);have hb8_:=hall 8 (by kernel_rfl);have hb9_:=hall 9 (by kernel_rfl);have hb10_:=hall 10 (by kernel_rfl);have hb11_:=hall 11 (by kernel_rfl);have hb12_:=hall 12 (by kernel_rfl);have hb13_:=hall 13 (by kernel_rfl);have hb14_:=hall 14 (by kernel_rfl);have hb15_:=hall 15 (by kernel_rfl);have hb16_:=hall 16 (by kernel_rfl);have hb17_:=hall 17 (by kernel_rfl);have hb18_:=hall 18 (by kernel_rfl);have hb19_:=hall 19 (by kernel_rfl);subst ha;obtain rfl:=Q_X19_ hb19_;simp only [putSel,hb1_,hb3_,hb4_,hb5_,hb6_,hb7_,hb8_,hb9_,hb10_,hb11_,hb12_,hb13_,hb14_,hb15_,hb16_,hb17_,hb18_,hb19_,if_true,Act.put,List.setIfInBounds_toArray,List.set_cons_zero,List.set_cons_succ];have BK327:=mk0 Q_BK327;clear Q_BK327;have HB:=mk0 Q_HB;clear Q_HB;have HO332:=mk0 (Q_HO332 hb16_);clear Q_HO332;clear hall hb1_ hb3_ hb4_ hb5_ hb6_ hb7_ hb8_ hb9_ hb10_ hb11_ hb12_ hb13_ hb14_ hb15_ hb16_ hb17_ hb18_ hb19_;obtain ⟨Ao108,co108,eo108⟩:=Kd.R_slice HO332.out;subst eo108;try go_wp2_with (first|((with_reducible refine gate_callee (f:=26) rfl ?_);refine goesL_ (some 45) rfl rfl Try.func26 (by kernel_rfl) rfl #[.string ((t328 ++ t329) ++ (⟨#[46]⟩:ByteArray)),.slice Ao108 y330.length co108] rfl (by (try simp only [List.map_toArray,List.map_cons,List.map_nil]);first|done|rfl|(simp only [List.length_drop,List.length_take];rfl)) ?_;(with_reducible refine (count_Accepts.calls k ((t328 ++ t329) ++ (⟨#[46]⟩:ByteArray)) _ _ y330 false t334 _ ?side1 ?side2 A8.out).mono ?_);(case side1=>repeat (first|exact (Kd.R_reads' HO332.out).2.2|(with_reducible refine Kd.C_alloc ?_ _)|(with_reducible refine Kd.C_drewN ?_ _)|(with_reducible refine Kd.C_drew ?_)));(case side2=>exact (Kd.R_reads' HO332.out).2.1);rintro e w109 ⟨rfl,hb⟩;refine ⟨_,rfl,?_⟩;replace HO332:=rbl HO332 hb;replace BK327:=bkb BK327 hb;replace HB:=bst HB hb;(try clear hb))|((with_reducible refine gate_callee (f:=26) rfl ?_);refine goesL_ (some 54) rfl rfl Try.func26 (by kernel_rfl) rfl #[.string ((t329 ++ t328) ++ (⟨#[46]⟩:ByteArray)),.slice Ao108 y330.length co108] rfl (by (try simp only [List.map_toArray,List.map_cons,List.map_nil]);first|done|rfl|(simp only [List.length_drop,List.length_take];rfl)) ?_;(with_reducible refine (count_Accepts.calls k ((t329 ++ t328) ++ (⟨#[46]⟩:ByteArray)) _ _ y330 false t336 _ ?side1 ?side2 A11.out).mono ?_);(case side1=>repeat (first|exact (Kd.R_reads' HO332.out).2.2|(with_reducible refine Kd.C_alloc ?_ _)|(with_reducible refine Kd.C_drewN ?_ _)|(with_reducible refine Kd.C_drew ?_)));(case side2=>exact (Kd.R_reads' HO332.out).2.1);rintro e w110 ⟨rfl,hb⟩;refine ⟨_,rfl,?_⟩;replace HO332:=rbl HO332 hb;replace BK327:=bkb BK327 hb;replace HB:=bst HB hb;(try clear hb))|((with_reducible refine gate_callee (f:=26) rfl ?_);refine goesL_ (some 63) rfl rfl Try.func26 (by kernel_rfl) rfl #[.string ((t328 ++ t329) ++ (⟨#[43]⟩:ByteArray)),.slice Ao108 y330.length co108] rfl (by (try simp only [List.map_toArray,List.map_cons,List.map_nil]);first|done|rfl|(simp only [List.length_drop,List.length_take];rfl)) ?_;(with_reducible refine (count_Accepts.calls k ((t328 ++ t329) ++ (⟨#[43]⟩:ByteArray)) _ _ y330 true t338 _ ?side1 ?side2 A12.out).mono ?_);(case side1=>repeat (first|exact (Kd.R_reads' HO332.out).2.2|(with_reducible refine Kd.C_alloc ?_ _)|(with_reducible refine Kd.C_drewN ?_ _)|(with_reducible refine Kd.C_drew ?_)));(case side2=>exact (Kd.R_reads' HO332.out).2.1);rintro e w111 ⟨rfl,hb⟩;refine ⟨_,rfl,?_⟩;replace HO332:=rbl HO332 hb;replace BK327:=bkb BK327 hb;replace HB:=bst HB hb;(try clear hb))|((with_reducible refine gate_callee (f:=26) rfl ?_);refine goesL_ (some 72) rfl rfl Try.func26 (by kernel_rfl) rfl #[.string ((t329 ++ t328) ++ (⟨#[43]⟩:ByteArray)),.slice Ao108 y330.length co108] rfl (by (try simp only [List.map_toArray,List.map_cons,List.map_nil]);first|done|rfl|(simp only [List.length_drop,List.length_take];rfl)) ?_;(with_reducible refine (count_Accepts.calls k ((t329 ++ t328) ++ (⟨#[43]⟩:ByteArray)) _ _ y330 true t340 _ ?side1 ?side2 A13.out).mono ?_);(case side1=>repeat (first|exact (Kd.R_reads' HO332.out).2.2|(with_reducible refine Kd.C_alloc ?_ _)|(with_reducible refine Kd.C_drewN ?_ _)|(with_reducible refine Kd.C_drew ?_)));(case side2=>exact (Kd.R_reads' HO332.out).2.1);rintro e w112 ⟨rfl,hb⟩;refine ⟨_,rfl,?_⟩;replace HO332:=rbl HO332 hb;replace BK327:=bkb BK327 hb;replace HB:=bst HB hb;(try clear hb))|((with_reducible refine gate_callee (f:=26) rfl ?_);refine goesL_ (some 78) rfl rfl Try.func26 (by kernel_rfl) rfl #[.string t328,.slice Ao108 y330.length co108] rfl (by (try simp only [List.map_toArray,List.map_cons,List.map_nil]);first|done|rfl|(simp only [List.length_drop,List.length_take];rfl)) ?_;(with_reducible refine (count_Accepts.calls k t328 _ _ y330 false t342 _ ?side1 ?side2 A14.out).mono ?_);(case side1=>repeat (first|exact (Kd.R_reads' HO332.out).2.2|(with_reducible refine Kd.C_alloc ?_ _)|(with_reducible refine Kd.C_drewN ?_ _)|(with_reducible refine Kd.C_drew ?_)));(case side2=>exact (Kd.R_reads' HO332.out).2.1);rintro e w113 ⟨rfl,hb⟩;refine ⟨_,rfl,?_⟩;replace HO332:=rbl HO332 hb;replace BK327:=bkb BK327 hb;replace HB:=bst HB hb;(try clear hb))|((with_reducible refine gate_callee (f:=26) rfl ?_);refine goesL_ (some 84) rfl rfl Try.func26 (by kernel_rfl) rfl #[.string t329,.slice Ao108 y330.length co108] rfl (by (try simp only [List.map_toArray,List.map_cons,List.map_nil]);first|done|rfl|(simp only [List.length_drop,List.length_take];rfl)) ?_;(with_reducible refine (count_Accepts.calls k t329 _ _ y330 true t344 _ ?side1 ?side2 A15.out).mono ?_);(case side1=>repeat (first|exact (Kd.R_reads' HO332.out).2.2|(with_reducible refine Kd.C_alloc ?_ _)|(with_reducible refine Kd.C_drewN ?_ _)|(with_reducible refine Kd.C_drew ?_)));(case side2=>exact (Kd.R_reads' HO332.out).2.1);rintro e w114 ⟨rfl,hb⟩;refine ⟨_,rfl,?_⟩;replace HO332:=rbl HO332 hb;replace BK327:=bkb BK327 hb;replace HB:=bst HB hb;(try clear hb))|(go_at_call 22;(with_reducible refine (bellpulllaw05_lives.calls k  t349 _ A100.out).mono ?_);rintro e w115 ⟨rfl,hb⟩;replace HO332:=rbl HO332 hb;replace BK327:=bkb BK327 hb;replace HB:=bst HB hb;(try clear hb)))
                 go_ret;exact ⟨by first|rfl|(simp [errW_none,errW_some] <;> rfl)|(simp [*,errW_none,errW_some] <;> rfl),by repeat (first|(with_reducible first|exact HB.out|apply below_alloc|apply pw_below_drewN|apply below_drew1|refine below_set ?_ GE327.out)|exact HB.out)⟩
                ·
                 replace c99:=Bool.eq_false_iff.mpr c99;subst c99;have H1:(none)=some r:=by rw [if_neg (show ¬ (false=true) by decide)] at H;exact H
                 clear H;have H:=H1;clear H1;exact absurd H (by simp)
              ·
               replace c81:=Bool.eq_false_iff.mpr c81;subst c81;have H1:(none)=some r:=by rw [if_neg (show ¬ (false=true) by decide)] at H;exact H
               clear H;have H:=H1;clear H1;exact absurd H (by simp)
             ·
              replace c80:=Bool.eq_false_iff.mpr c80;subst c80;have H1:(if t339=true then (none) else (if t341=true then (none) else (if t343=true then (none) else ((bellpulllaw05_lives.f k).bind fun t350=>(some t350)))))=some r:=by rw [if_neg (show ¬ (false=true) by decide)] at H;exact H
              clear H;have H:=H1;clear H1
              by_cases c116:t339=true
              ·
               subst c116;have H1:(none)=some r:=by rw [if_pos rfl] at H;exact H
               clear H;have H:=H1;clear H1;exact absurd H (by simp)
              ·
               replace c116:=Bool.eq_false_iff.mpr c116;subst c116;have H1:(if t341=true then (none) else (if t343=true then (none) else ((bellpulllaw05_lives.f k).bind fun t350=>(some t350))))=some r:=by rw [if_neg (show ¬ (false=true) by decide)] at H;exact H
               clear H;have H:=H1;clear H1
               by_cases c117:t341=true
               ·
                subst c117;have H1:(none)=some r:=by rw [if_pos rfl] at H;exact H
                clear H;have H:=H1;clear H1;exact absurd H (by simp)
               ·
                replace c117:=Bool.eq_false_iff.mpr c117;subst c117;have H1:(if t343=true then (none) else ((bellpulllaw05_lives.f k).bind fun t350=>(some t350)))=some r:=by rw [if_neg (show ¬ (false=true) by decide)] at H;exact H
                clear H;have H:=H1;clear H1
                by_cases c118:t343=true
                ·
                 subst c118;have H1:(none)=some r:=by rw [if_pos rfl] at H;exact H
                 clear H;have H:=H1;clear H1;exact absurd H (by simp)
                ·
                 replace c118:=Bool.eq_false_iff.mpr c118;subst c118;have H1:((bellpulllaw05_lives.f k).bind fun t350=>(some t350))=some r:=by rw [if_neg (show ¬ (false=true) by decide)] at H;exact H
                 clear H;have H:=H1;clear H1;replace H:=Option.bind_eq_some_iff.mp H;obtain ⟨t350,A1190,H⟩:=H;(try dsimp only at H);have A119:=mk0 A1190;clear A1190;obtain rfl:=Option.some.inj H;go_enter Try.func9,Try.ntmps9;try go_wp2_with (first|((with_reducible refine gate_dst (N:=5) rfl ?_);refine box_event ?hg (N:=5) ?hd (cs:=#[.int .u8 a2_0,.int .u8 a2_1,.int .u8 a2_2]) (t:=51) ?hr ?_;(case hd=>rfl);(case hg=>rfl);(case hr=>first|(go_simp;done)|(go_simp;rfl));intro gb327 hg w120 hbox hb;have BK327:=mk0 (hbox);have GW327:=szw hg HB;have GE327:=GW327;replace HB:=bst HB hb;clear hb hbox hg))
                 replace BK327:=bdr BK327;replace HB:=hdr HB;refine start_ (n:=20) (S:=fun w'=>True) (ds:=[]) #[false,false,false,false,false,false,false,false,false,false,false,false,false,false,false,false,false,false,false,false] (by kernel_rfl) rfl rfl trivial (fun hHeld=>?_);refine with_tabW bellpulllaw05_CountCommutes.tab1 bellpulllaw05_CountCommutes.bits1 (fun HT_ HW_=>?_);generalize w120.drew=w121 at BK327 HB hHeld ⊢;refine pure_ (i:=0) (N:=some 22) (v:=?_) (a':=?_) #[true,false,false,false,false,false,false,false,false,false,false,false,false,false,false,false,false,false,false,false] rfl rfl (any_of HT_.out (by kernel_rfl)) (fun _ _ _ h=>h) (Or.inl ⟨by rfl,?_⟩) ?_ ?_;rotate_left
                 ·
                  intro w';go_simp;with_reducible rfl
                 rotate_left
                 ·
                  simp only [Act.put,List.setIfInBounds_toArray,List.set_cons_zero,List.set_cons_succ,i64_w,i32_w];rfl
                 refine pure_ (i:=2) (N:=some 24) (v:=?_) (a':=?_) #[true,false,true,false,false,false,false,false,false,false,false,false,false,false,false,false,false,false,false,false] rfl rfl (any_of HT_.out (by kernel_rfl)) (fun _ _ _ h=>h) (Or.inl ⟨by rfl,?_⟩) ?_ ?_;rotate_left
                 ·
                  intro w';go_simp;with_reducible rfl
                 rotate_left
                 ·
                  simp only [Act.put,List.setIfInBounds_toArray,List.set_cons_zero,List.set_cons_succ,i64_w,i32_w];rfl
                 refine inv_at [1,3,4,5,6,7,8,9,10,11,12,13,14,15,16,17,18,19] (fun a0_ b a w'=>∃ (v331:Value) (m19_:Value),a=putSel a0_ b [(1,23,.string t328),(3,25,.string t329),(4,26,.pointer (some ⟨gb327,0,none⟩)),(5,27,.int .u8 a2_0),(6,28,.int .i64 (wrap64 (a2_0))),(7,29,.int .i64 (Int.tmod (wrap64 (a2_0)) 5)),(8,30,.pointer (some ⟨gb327,1,none⟩)),(9,31,.int .u8 a2_1),(10,32,.int .i64 (wrap64 (a2_1))),(11,33,.int .i64 (Int.tmod (wrap64 (a2_1)) 5)),(12,34,.pointer (some ⟨gb327,2,none⟩)),(13,35,.int .u8 a2_2),(14,36,.int .i64 (wrap64 (a2_2))),(15,37,.int .i64 (Int.tmod (wrap64 (a2_2)) 5)),(16,38,v331),(17,7,.string t328),(18,8,.string t329),(19,9,m19_)]∧(w'.heap[gb327]?=some (.cells #[.int .u8 a2_0,.int .u8 a2_1,.int .u8 a2_2] 51 (0,0)))∧(Below w.heap.size w w')∧(b 16=true → Kd.R (Kd.int .i64) 3 w' w.heap.size (fun _=>True) v331 y330)∧(b 19=true → (m19_:Value)=v331)) HT_.out HW_.out (by kernel_rfl) (by kernel_rfl) ?_ ?_ ?_
                 ·
                  exact ⟨.bool false,.bool false,by simp only [putSel,Bool.false_eq_true,if_false],BK327.out,HB.out,fun h_=>absurd h_ (by decide),fun h_=>absurd h_ (by decide)⟩
                 ·
                  skip
                  clear BK327 HB;refine steps_cons ?_ ?_
                  ·
                   rintro b a w' ⟨v331,m19_,ha,Q_BK327,Q_HB,Q_HO332,Q_X19_⟩ hb_ hon hoff;refine ⟨_,rfl,fun K hK=>?_⟩;have e22:a.tmps[22]?=some (.slice A0 l0.length c0):=by rw [ha];exact (putSel_off rfl).trans rfl
                   replace ha:=mk0 ha;have BK327:=mk0 Q_BK327;have HB:=mk0 Q_HB;refine goes_ Try.func32 (by kernel_rfl) rfl #[.slice A0 l0.length c0,.int .i64 10] (by rfl) rfl rfl (by first|(simp only [List.map_toArray,List.map_cons,List.map_nil,Act.eval,Array.getD_eq_getD_getElem?,Option.getD_some,e22];done)|(simp only [List.map_toArray,List.map_cons,List.map_nil,Act.eval,Array.getD_eq_getD_getElem?,Option.getD_some,e22];rfl)) ?_;with_reducible refine (bellpulllaw05_code.calls k _ _ l0 10 t328 _ ?side1 ?side2 A4.out).mono ?_
                   (case side1=>repeat (first|exact (Kd.C_below HR0.out HB.out)|(with_reducible refine Kd.C_alloc ?_ _)|(with_reducible refine Kd.C_drewN ?_ _)|(with_reducible refine Kd.C_drew ?_)));(case side2=>exact HC0.out);rintro e w122 ⟨rfl,hb⟩;refine ⟨_,rfl,?_⟩;have n0_:=bkb BK327 hb;have n1_:=bst HB hb;have z_HO332:=fun (h0_:b 16=true)=>(show Kd.R (Kd.int .i64) 3 w122 w.heap.size (fun _=>True) v331 y330 from by first|exact (Kd.R_below (by (with_reducible repeat (first|apply Kd.R_alloc|apply Kd.R_drewN|apply Kd.R_drew));exact (Q_HO332 h0_)) hb)|exact Kd.R_mono (Kd.R_below (by (with_reducible repeat (first|apply Kd.R_alloc|apply Kd.R_drewN|apply Kd.R_drew));exact (Q_HO332 h0_)) hb) (fun _ h_=>by first|trivial|exact h_|exact h_.1))
                   clear BK327;clear HB;have BK327:=n0_;have HB:=n1_;clear n0_ n1_;(try clear hb);refine hK.out _ _ ⟨v331,m19_,(by rw [ha.out];exact putSel_upk 0 hb_ rfl rfl rfl),BK327.out,HB.out,z_HO332,fun h0_=>absurd ((hoff 19 (by kernel_rfl)).symm.trans h0_) (by decide)⟩
                  refine steps_cons ?_ ?_
                  ·
                   rintro b a w' ⟨v331,m19_,ha,Q_BK327,Q_HB,Q_HO332,Q_X19_⟩ hb_ hon hoff;refine ⟨_,rfl,fun K hK=>?_⟩;have e24:a.tmps[24]?=some (.slice A1 l1.length c1):=by rw [ha];exact (putSel_off rfl).trans rfl
                   replace ha:=mk0 ha;have BK327:=mk0 Q_BK327;have HB:=mk0 Q_HB;refine goes_ Try.func32 (by kernel_rfl) rfl #[.slice A1 l1.length c1,.int .i64 10] (by rfl) rfl rfl (by first|(simp only [List.map_toArray,List.map_cons,List.map_nil,Act.eval,Array.getD_eq_getD_getElem?,Option.getD_some,e24];done)|(simp only [List.map_toArray,List.map_cons,List.map_nil,Act.eval,Array.getD_eq_getD_getElem?,Option.getD_some,e24];rfl)) ?_;with_reducible refine (bellpulllaw05_code.calls k _ _ l1 10 t329 _ ?side1 ?side2 A5.out).mono ?_
                   (case side1=>repeat (first|exact (Kd.C_below HR1.out HB.out)|(with_reducible refine Kd.C_alloc ?_ _)|(with_reducible refine Kd.C_drewN ?_ _)|(with_reducible refine Kd.C_drew ?_)));(case side2=>exact HC1.out);rintro e w124 ⟨rfl,hb⟩;refine ⟨_,rfl,?_⟩;have n0_:=bkb BK327 hb;have n1_:=bst HB hb;have z_HO332:=fun (h0_:b 16=true)=>(show Kd.R (Kd.int .i64) 3 w124 w.heap.size (fun _=>True) v331 y330 from by first|exact (Kd.R_below (by (with_reducible repeat (first|apply Kd.R_alloc|apply Kd.R_drewN|apply Kd.R_drew));exact (Q_HO332 h0_)) hb)|exact Kd.R_mono (Kd.R_below (by (with_reducible repeat (first|apply Kd.R_alloc|apply Kd.R_drewN|apply Kd.R_drew));exact (Q_HO332 h0_)) hb) (fun _ h_=>by first|trivial|exact h_|exact h_.1))
                   clear BK327;clear HB;have BK327:=n0_;have HB:=n1_;clear n0_ n1_;(try clear hb);refine hK.out _ _ ⟨v331,m19_,(by rw [ha.out];exact putSel_upk 1 hb_ rfl rfl rfl),BK327.out,HB.out,z_HO332,fun h0_=>absurd ((hoff 19 (by kernel_rfl)).symm.trans h0_) (by decide)⟩
                  refine steps_cons ?_ ?_
                  ·
                   rintro b a w' ⟨v331,m19_,ha,Q_BK327,Q_HB,Q_HO332,Q_X19_⟩ hb_ hon hoff;refine ⟨_,rfl,fun K hK=>?_⟩;have e5:a.tmps[5]?=some (.pointer (some ⟨gb327,0,none⟩)):=by rw [ha];exact (putSel_off rfl).trans rfl
                   replace ha:=mk0 ha;have BK327:=mk0 Q_BK327;have HB:=mk0 Q_HB;refine value_ (w1:=w') (v:=.pointer (some ⟨gb327,0,none⟩)) (by rfl) rfl ?_ ?_
                   ·
                    go_simp;(try simp only [i64_w]);try rfl
                   refine hK.out _ _ ⟨v331,m19_,(by rw [ha.out];exact putSel_upk 2 hb_ rfl rfl rfl),Q_BK327,Q_HB,fun h0_=>absurd ((hoff 16 (by kernel_rfl)).symm.trans h0_) (by decide),fun h0_=>absurd ((hoff 19 (by kernel_rfl)).symm.trans h0_) (by decide)⟩
                  refine steps_cons ?_ ?_
                  ·
                   rintro b a w' ⟨v331,m19_,ha,Q_BK327,Q_HB,Q_HO332,Q_X19_⟩ hb_ hon hoff;refine ⟨_,rfl,fun K hK=>?_⟩;have e26:a.tmps[26]?=some (.pointer (some ⟨gb327,0,none⟩)):=by rw [ha];exact putSel_on (e:=(4,26,.pointer (some ⟨gb327,0,none⟩))) 2 rfl rfl (hon 4 (by kernel_rfl)) rfl
                   replace ha:=mk0 ha;have BK327:=mk0 Q_BK327;have HB:=mk0 Q_HB;have hc0_:w'.cell? ⟨gb327,0,none⟩=some (.int .u8 a2_0):=(blk_cell BK327.out 0).trans rfl;have hc1_:w'.cell? ⟨gb327,1,none⟩=some (.int .u8 a2_1):=(blk_cell BK327.out 1).trans rfl;have hc2_:w'.cell? ⟨gb327,2,none⟩=some (.int .u8 a2_2):=(blk_cell BK327.out 2).trans rfl;refine value_ (w1:=w') (v:=.int .u8 a2_0) (by rfl) rfl ?_ ?_
                   ·
                    go_simp;(try simp only [i64_w]);try rfl
                   refine hK.out _ _ ⟨v331,m19_,(by rw [ha.out];exact putSel_upk 3 hb_ rfl rfl rfl),Q_BK327,Q_HB,fun h0_=>absurd ((hoff 16 (by kernel_rfl)).symm.trans h0_) (by decide),fun h0_=>absurd ((hoff 19 (by kernel_rfl)).symm.trans h0_) (by decide)⟩
                  refine steps_cons ?_ ?_
                  ·
                   rintro b a w' ⟨v331,m19_,ha,Q_BK327,Q_HB,Q_HO332,Q_X19_⟩ hb_ hon hoff;refine ⟨_,rfl,fun K hK=>?_⟩;have e27:a.tmps[27]?=some (.int .u8 a2_0):=by rw [ha];exact putSel_on (e:=(5,27,.int .u8 a2_0)) 3 rfl rfl (hon 5 (by kernel_rfl)) rfl
                   replace ha:=mk0 ha;have BK327:=mk0 Q_BK327;have HB:=mk0 Q_HB;refine value_ (w1:=w') (v:=.int .i64 (wrap64 (a2_0))) (by rfl) rfl ?_ ?_
                   ·
                    go_simp;(try simp only [i64_w]);try rfl
                   refine hK.out _ _ ⟨v331,m19_,(by rw [ha.out];exact putSel_upk 4 hb_ rfl rfl rfl),Q_BK327,Q_HB,fun h0_=>absurd ((hoff 16 (by kernel_rfl)).symm.trans h0_) (by decide),fun h0_=>absurd ((hoff 19 (by kernel_rfl)).symm.trans h0_) (by decide)⟩
                  refine steps_cons ?_ ?_
                  ·
                   rintro b a w' ⟨v331,m19_,ha,Q_BK327,Q_HB,Q_HO332,Q_X19_⟩ hb_ hon hoff;refine ⟨_,rfl,fun K hK=>?_⟩;have e28:a.tmps[28]?=some (.int .i64 (wrap64 (a2_0))):=by rw [ha];exact putSel_on (e:=(6,28,.int .i64 (wrap64 (a2_0)))) 4 rfl rfl (hon 6 (by kernel_rfl)) rfl
                   replace ha:=mk0 ha;have BK327:=mk0 Q_BK327;have HB:=mk0 Q_HB;refine value_ (w1:=w') (v:=.int .i64 (Int.tmod (wrap64 (a2_0)) 5)) (by rfl) rfl ?_ ?_
                   ·
                    go_simp;(try simp only [i64_w]);try rfl
                   refine hK.out _ _ ⟨v331,m19_,(by rw [ha.out];exact putSel_upk 5 hb_ rfl rfl rfl),Q_BK327,Q_HB,fun h0_=>absurd ((hoff 16 (by kernel_rfl)).symm.trans h0_) (by decide),fun h0_=>absurd ((hoff 19 (by kernel_rfl)).symm.trans h0_) (by decide)⟩
                  refine steps_cons ?_ ?_
                  ·
                   rintro b a w' ⟨v331,m19_,ha,Q_BK327,Q_HB,Q_HO332,Q_X19_⟩ hb_ hon hoff;refine ⟨_,rfl,fun K hK=>?_⟩;have e5:a.tmps[5]?=some (.pointer (some ⟨gb327,0,none⟩)):=by rw [ha];exact (putSel_off rfl).trans rfl
                   replace ha:=mk0 ha;have BK327:=mk0 Q_BK327;have HB:=mk0 Q_HB;refine value_ (w1:=w') (v:=.pointer (some ⟨gb327,1,none⟩)) (by rfl) rfl ?_ ?_
                   ·
                    go_simp;(try simp only [i64_w]);try rfl
                   refine hK.out _ _ ⟨v331,m19_,(by rw [ha.out];exact putSel_upk 6 hb_ rfl rfl rfl),Q_BK327,Q_HB,fun h0_=>absurd ((hoff 16 (by kernel_rfl)).symm.trans h0_) (by decide),fun h0_=>absurd ((hoff 19 (by kernel_rfl)).symm.trans h0_) (by decide)⟩
                  refine steps_cons ?_ ?_
                  ·
                   rintro b a w' ⟨v331,m19_,ha,Q_BK327,Q_HB,Q_HO332,Q_X19_⟩ hb_ hon hoff;refine ⟨_,rfl,fun K hK=>?_⟩;have e30:a.tmps[30]?=some (.pointer (some ⟨gb327,1,none⟩)):=by rw [ha];exact putSel_on (e:=(8,30,.pointer (some ⟨gb327,1,none⟩))) 6 rfl rfl (hon 8 (by kernel_rfl)) rfl
                   replace ha:=mk0 ha;have BK327:=mk0 Q_BK327;have HB:=mk0 Q_HB;have hc0_:w'.cell? ⟨gb327,0,none⟩=some (.int .u8 a2_0):=(blk_cell BK327.out 0).trans rfl;have hc1_:w'.cell? ⟨gb327,1,none⟩=some (.int .u8 a2_1):=(blk_cell BK327.out 1).trans rfl;have hc2_:w'.cell? ⟨gb327,2,none⟩=some (.int .u8 a2_2):=(blk_cell BK327.out 2).trans rfl;refine value_ (w1:=w') (v:=.int .u8 a2_1) (by rfl) rfl ?_ ?_
                   ·
                    go_simp;(try simp only [i64_w]);try rfl
                   refine hK.out _ _ ⟨v331,m19_,(by rw [ha.out];exact putSel_upk 7 hb_ rfl rfl rfl),Q_BK327,Q_HB,fun h0_=>absurd ((hoff 16 (by kernel_rfl)).symm.trans h0_) (by decide),fun h0_=>absurd ((hoff 19 (by kernel_rfl)).symm.trans h0_) (by decide)⟩
                  refine steps_cons ?_ ?_
                  ·
                   rintro b a w' ⟨v331,m19_,ha,Q_BK327,Q_HB,Q_HO332,Q_X19_⟩ hb_ hon hoff;refine ⟨_,rfl,fun K hK=>?_⟩;have e31:a.tmps[31]?=some (.int .u8 a2_1):=by rw [ha];exact putSel_on (e:=(9,31,.int .u8 a2_1)) 7 rfl rfl (hon 9 (by kernel_rfl)) rfl
                   replace ha:=mk0 ha;have BK327:=mk0 Q_BK327;have HB:=mk0 Q_HB;refine value_ (w1:=w') (v:=.int .i64 (wrap64 (a2_1))) (by rfl) rfl ?_ ?_
                   ·
                    go_simp;(try simp only [i64_w]);try rfl
                   refine hK.out _ _ ⟨v331,m19_,(by rw [ha.out];exact putSel_upk 8 hb_ rfl rfl rfl),Q_BK327,Q_HB,fun h0_=>absurd ((hoff 16 (by kernel_rfl)).symm.trans h0_) (by decide),fun h0_=>absurd ((hoff 19 (by kernel_rfl)).symm.trans h0_) (by decide)⟩
                  refine steps_cons ?_ ?_
                  ·
                   rintro b a w' ⟨v331,m19_,ha,Q_BK327,Q_HB,Q_HO332,Q_X19_⟩ hb_ hon hoff;refine ⟨_,rfl,fun K hK=>?_⟩;have e32:a.tmps[32]?=some (.int .i64 (wrap64 (a2_1))):=by rw [ha];exact putSel_on (e:=(10,32,.int .i64 (wrap64 (a2_1)))) 8 rfl rfl (hon 10 (by kernel_rfl)) rfl
                   replace ha:=mk0 ha;have BK327:=mk0 Q_BK327;have HB:=mk0 Q_HB;refine value_ (w1:=w') (v:=.int .i64 (Int.tmod (wrap64 (a2_1)) 5)) (by rfl) rfl ?_ ?_
                   ·
                    go_simp;(try simp only [i64_w]);try rfl
                   refine hK.out _ _ ⟨v331,m19_,(by rw [ha.out];exact putSel_upk 9 hb_ rfl rfl rfl),Q_BK327,Q_HB,fun h0_=>absurd ((hoff 16 (by kernel_rfl)).symm.trans h0_) (by decide),fun h0_=>absurd ((hoff 19 (by kernel_rfl)).symm.trans h0_) (by decide)⟩
                  refine steps_cons ?_ ?_
                  ·
                   rintro b a w' ⟨v331,m19_,ha,Q_BK327,Q_HB,Q_HO332,Q_X19_⟩ hb_ hon hoff;refine ⟨_,rfl,fun K hK=>?_⟩;have e5:a.tmps[5]?=some (.pointer (some ⟨gb327,0,none⟩)):=by rw [ha];exact (putSel_off rfl).trans rfl
                   replace ha:=mk0 ha;have BK327:=mk0 Q_BK327;have HB:=mk0 Q_HB;refine value_ (w1:=w') (v:=.pointer (some ⟨gb327,2,none⟩)) (by rfl) rfl ?_ ?_
                   ·
                    go_simp;(try simp only [i64_w]);try rfl
                   refine hK.out _ _ ⟨v331,m19_,(by rw [ha.out];exact putSel_upk 10 hb_ rfl rfl rfl),Q_BK327,Q_HB,fun h0_=>absurd ((hoff 16 (by kernel_rfl)).symm.trans h0_) (by decide),fun h0_=>absurd ((hoff 19 (by kernel_rfl)).symm.trans h0_) (by decide)⟩
                  refine steps_cons ?_ ?_
                  ·
                   rintro b a w' ⟨v331,m19_,ha,Q_BK327,Q_HB,Q_HO332,Q_X19_⟩ hb_ hon hoff;refine ⟨_,rfl,fun K hK=>?_⟩;have e34:a.tmps[34]?=some (.pointer (some ⟨gb327,2,none⟩)):=by rw [ha];exact putSel_on (e:=(12,34,.pointer (some ⟨gb327,2,none⟩))) 10 rfl rfl (hon 12 (by kernel_rfl)) rfl
                   replace ha:=mk0 ha;have BK327:=mk0 Q_BK327;have HB:=mk0 Q_HB;have hc0_:w'.cell? ⟨gb327,0,none⟩=some (.int .u8 a2_0):=(blk_cell BK327.out 0).trans rfl;have hc1_:w'.cell? ⟨gb327,1,none⟩=some (.int .u8 a2_1):=(blk_cell BK327.out 1).trans rfl;have hc2_:w'.cell? ⟨gb327,2,none⟩=some (.int .u8 a2_2):=(blk_cell BK327.out 2).trans rfl;refine value_ (w1:=w') (v:=.int .u8 a2_2) (by rfl) rfl ?_ ?_
                   ·
                    go_simp;(try simp only [i64_w]);try rfl
                   refine hK.out _ _ ⟨v331,m19_,(by rw [ha.out];exact putSel_upk 11 hb_ rfl rfl rfl),Q_BK327,Q_HB,fun h0_=>absurd ((hoff 16 (by kernel_rfl)).symm.trans h0_) (by decide),fun h0_=>absurd ((hoff 19 (by kernel_rfl)).symm.trans h0_) (by decide)⟩
                  refine steps_cons ?_ ?_
                  ·
                   rintro b a w' ⟨v331,m19_,ha,Q_BK327,Q_HB,Q_HO332,Q_X19_⟩ hb_ hon hoff;refine ⟨_,rfl,fun K hK=>?_⟩;have e35:a.tmps[35]?=some (.int .u8 a2_2):=by rw [ha];exact putSel_on (e:=(13,35,.int .u8 a2_2)) 11 rfl rfl (hon 13 (by kernel_rfl)) rfl
                   replace ha:=mk0 ha;have BK327:=mk0 Q_BK327;have HB:=mk0 Q_HB;refine value_ (w1:=w') (v:=.int .i64 (wrap64 (a2_2))) (by rfl) rfl ?_ ?_
                   ·
                    go_simp;(try simp only [i64_w]);try rfl
                   refine hK.out _ _ ⟨v331,m19_,(by rw [ha.out];exact putSel_upk 12 hb_ rfl rfl rfl),Q_BK327,Q_HB,fun h0_=>absurd ((hoff 16 (by kernel_rfl)).symm.trans h0_) (by decide),fun h0_=>absurd ((hoff 19 (by kernel_rfl)).symm.trans h0_) (by decide)⟩
                  refine steps_cons ?_ ?_
                  ·
                   rintro b a w' ⟨v331,m19_,ha,Q_BK327,Q_HB,Q_HO332,Q_X19_⟩ hb_ hon hoff;refine ⟨_,rfl,fun K hK=>?_⟩;have e36:a.tmps[36]?=some (.int .i64 (wrap64 (a2_2))):=by rw [ha];exact putSel_on (e:=(14,36,.int .i64 (wrap64 (a2_2)))) 12 rfl rfl (hon 14 (by kernel_rfl)) rfl
                   replace ha:=mk0 ha;have BK327:=mk0 Q_BK327;have HB:=mk0 Q_HB;refine value_ (w1:=w') (v:=.int .i64 (Int.tmod (wrap64 (a2_2)) 5)) (by rfl) rfl ?_ ?_
                   ·
                    go_simp;(try simp only [i64_w]);try rfl
                   refine hK.out _ _ ⟨v331,m19_,(by rw [ha.out];exact putSel_upk 13 hb_ rfl rfl rfl),Q_BK327,Q_HB,fun h0_=>absurd ((hoff 16 (by kernel_rfl)).symm.trans h0_) (by decide),fun h0_=>absurd ((hoff 19 (by kernel_rfl)).symm.trans h0_) (by decide)⟩
                  refine steps_cons ?_ ?_
                  ·
                   rintro b a w' ⟨v331,m19_,ha,Q_BK327,Q_HB,Q_HO332,Q_X19_⟩ hb_ hon hoff;refine ⟨_,rfl,fun K hK=>?_⟩;have e29:a.tmps[29]?=some (.int .i64 (Int.tmod (wrap64 (a2_0)) 5)):=by rw [ha];exact putSel_on (e:=(7,29,.int .i64 (Int.tmod (wrap64 (a2_0)) 5))) 5 rfl rfl (hon 7 (by kernel_rfl)) rfl
                   have e33:a.tmps[33]?=some (.int .i64 (Int.tmod (wrap64 (a2_1)) 5)):=by rw [ha];exact putSel_on (e:=(11,33,.int .i64 (Int.tmod (wrap64 (a2_1)) 5))) 9 rfl rfl (hon 11 (by kernel_rfl)) rfl
                   have e37:a.tmps[37]?=some (.int .i64 (Int.tmod (wrap64 (a2_2)) 5)):=by rw [ha];exact putSel_on (e:=(15,37,.int .i64 (Int.tmod (wrap64 (a2_2)) 5))) 13 rfl rfl (hon 15 (by kernel_rfl)) rfl
                   replace ha:=mk0 ha;have BK327:=mk0 Q_BK327;have HB:=mk0 Q_HB;refine Kd.R_lit_step (Kd.int .i64) _ 3 ?hg (N:=38) ?hd (xs:=([Int.tmod (wrap64 (a2_0)) 5,Int.tmod (wrap64 (a2_1)) 5,Int.tmod (wrap64 (a2_2)) 5]:List Int)) (inner:=[.int .i64 (Int.tmod (wrap64 (a2_0)) 5),.int .i64 (Int.tmod (wrap64 (a2_1)) 5),.int .i64 (Int.tmod (wrap64 (a2_2)) 5)]) (ok:=fun _=>True) (okp:=fun _=>True) ?hr ?hp (fun _ hk=>hk) trivial (Below.refl _ _) (Nat.le_refl _) (by simp) ?_;(case hd=>rfl);(case hg=>rfl);(case hr=>first|(go_simp;done)|(go_simp;rfl));(case hp=>exact (Reps.one (show Kd.M (Kd.int .i64) _ _ _ (Int.tmod (wrap64 (a2_0)) 5) [.int .i64 (Int.tmod (wrap64 (a2_0)) 5)] from rfl) (Reps.one (show Kd.M (Kd.int .i64) _ _ _ (Int.tmod (wrap64 (a2_1)) 5) [.int .i64 (Int.tmod (wrap64 (a2_1)) 5)] from rfl) (Reps.one (show Kd.M (Kd.int .i64) _ _ _ (Int.tmod (wrap64 (a2_2)) 5) [.int .i64 (Int.tmod (wrap64 (a2_2)) 5)] from rfl) (Reps.none _ _)))));intro v331 w122 ho123 hb hg_ hnew_;clear hg_ hnew_;(first|rw [← Ny330.out] at ho123|(simp only [Int.reduceToNat] at ho123;rw [← Ny330.out] at ho123));have HO332:=mk0 (Kd.R_lower ho123 (below_size HB.out));replace BK327:=bkb BK327 hb;replace HB:=bst HB hb;clear hb ho123;refine hK.out _ _ ⟨v331,m19_,(by rw [ha.out];exact putSel_upk 14 hb_ rfl rfl rfl),BK327.out,HB.out,fun _=>HO332.out,fun h0_=>absurd ((hoff 19 (by kernel_rfl)).symm.trans h0_) (by decide)⟩
                  refine steps_cons ?_ ?_
                  ·
                   rintro b a w' ⟨v331,m19_,ha,Q_BK327,Q_HB,Q_HO332,Q_X19_⟩ hb_ hon hoff;refine ⟨_,rfl,fun K hK=>?_⟩;have e23:a.tmps[23]?=some (.string t328):=by rw [ha];exact putSel_on (e:=(1,23,.string t328)) 0 rfl rfl (hon 1 (by kernel_rfl)) rfl
                   replace ha:=mk0 ha;have BK327:=mk0 Q_BK327;have HB:=mk0 Q_HB;refine value_ (w1:=w') (v:=.string t328) (by rfl) rfl ?_ ?_
                   ·
                    go_simp;(try simp only [i64_w]);try rfl
                   refine hK.out _ _ ⟨v331,m19_,(by rw [ha.out];exact putSel_upk 15 hb_ rfl rfl rfl),Q_BK327,Q_HB,Q_HO332,fun h0_=>absurd ((hoff 19 (by kernel_rfl)).symm.trans h0_) (by decide)⟩
                  refine steps_cons ?_ ?_
                  ·
                   rintro b a w' ⟨v331,m19_,ha,Q_BK327,Q_HB,Q_HO332,Q_X19_⟩ hb_ hon hoff;refine ⟨_,rfl,fun K hK=>?_⟩;have e25:a.tmps[25]?=some (.string t329):=by rw [ha];exact putSel_on (e:=(3,25,.string t329)) 1 rfl rfl (hon 3 (by kernel_rfl)) rfl
                   replace ha:=mk0 ha;have BK327:=mk0 Q_BK327;have HB:=mk0 Q_HB;refine value_ (w1:=w') (v:=.string t329) (by rfl) rfl ?_ ?_
                   ·
                    go_simp;(try simp only [i64_w]);try rfl
                   refine hK.out _ _ ⟨v331,m19_,(by rw [ha.out];exact putSel_upk 16 hb_ rfl rfl rfl),Q_BK327,Q_HB,Q_HO332,fun h0_=>absurd ((hoff 19 (by kernel_rfl)).symm.trans h0_) (by decide)⟩
                  refine steps_cons ?_ ?_
                  ·
                   rintro b a w' ⟨v331,m19_,ha,Q_BK327,Q_HB,Q_HO332,Q_X19_⟩ hb_ hon hoff;refine ⟨_,rfl,fun K hK=>?_⟩;have e38:a.tmps[38]?=some (v331):=by rw [ha];exact putSel_on (e:=(16,38,v331)) 14 rfl rfl (hon 16 (by kernel_rfl)) rfl
                   replace ha:=mk0 ha;have BK327:=mk0 Q_BK327;have HB:=mk0 Q_HB;have HO332:=mk0 (Q_HO332 (hon 16 (by kernel_rfl)));refine value_ (w1:=w') (v:=v331) (by rfl) rfl ?_ ?_
                   ·
                    go_simp;(try simp only [i64_w]);try rfl
                   refine hK.out _ _ ⟨v331,(v331),(by rw [ha.out];exact putSel_upk 17 hb_ rfl rfl rfl),Q_BK327,Q_HB,Q_HO332,fun _=>rfl⟩
                  exact steps_nil
                 rintro b a w126 hall ⟨v331,m19_,ha,Q_BK327,Q_HB,Q_HO332,Q_X19_⟩;clear BK327 HB;have hb1_:=hall 1 (by kernel_rfl);have hb3_:=hall 3 (by kernel_rfl);have hb4_:=hall 4 (by kernel_rfl);have hb5_:=hall 5 (by kernel_rfl);have hb6_:=hall 6 (by kernel_rfl);have hb7_:=hall 7 (by kernel_rfl);have hb8_:=hall 8 (by kernel_rfl);have hb9_:=hall 9 (by kernel_rfl);have hb10_:=hall 10 (by kernel_rfl);have hb11_:=hall 11 (by kernel_rfl);have hb12_:=hall 12 (by kernel_rfl);have hb13_:=hall 13 (by kernel_rfl);have hb14_:=hall 14 (by kernel_rfl);have hb15_:=hall 15 (by kernel_rfl);have hb16_:=hall 16 (by kernel_rfl);have hb17_:=hall 17 (by kernel_rfl);have hb18_:=hall 18 (by kernel_rfl);have hb19_:=hall 19 (by kernel_rfl);subst ha;obtain rfl:=Q_X19_ hb19_;simp only [putSel,hb1_,hb3_,hb4_,hb5_,hb6_,hb7_,hb8_,hb9_,hb10_,hb11_,hb12_,hb13_,hb14_,hb15_,hb16_,hb17_,hb18_,hb19_,if_true,Act.put,List.setIfInBounds_toArray,List.set_cons_zero,List.set_cons_succ];have BK327:=mk0 Q_BK327;clear Q_BK327;have HB:=mk0 Q_HB;clear Q_HB;have HO332:=mk0 (Q_HO332 hb16_);clear Q_HO332;clear hall hb1_ hb3_ hb4_ hb5_ hb6_ hb7_ hb8_ hb9_ hb10_ hb11_ hb12_ hb13_ hb14_ hb15_ hb16_ hb17_ hb18_ hb19_;obtain ⟨Ao127,co127,eo127⟩:=Kd.R_slice HO332.out;subst eo127;try go_wp2_with (first|((with_reducible refine gate_callee (f:=26) rfl ?_);refine goesL_ (some 45) rfl rfl Try.func26 (by kernel_rfl) rfl #[.string ((t328 ++ t329) ++ (⟨#[46]⟩:ByteArray)),.slice Ao127 y330.length co127] rfl (by (try simp only [List.map_toArray,List.map_cons,List.map_nil]);first|done|rfl|(simp only [List.length_drop,List.length_take];rfl)) ?_;(with_reducible refine (count_Accepts.calls k ((t328 ++ t329) ++ (⟨#[46]⟩:ByteArray)) _ _ y330 false t334 _ ?side1 ?side2 A8.out).mono ?_);(case side1=>repeat (first|exact (Kd.R_reads' HO332.out).2.2|(with_reducible refine Kd.C_alloc ?_ _)|(with_reducible refine Kd.C_drewN ?_ _)|(with_reducible refine Kd.C_drew ?_)));(case side2=>exact (Kd.R_reads' HO332.out).2.1);rintro e w128 ⟨rfl,hb⟩;refine ⟨_,rfl,?_⟩;replace HO332:=rbl HO332 hb;replace BK327:=bkb BK327 hb;replace HB:=bst HB hb;(try clear hb))|((with_reducible refine gate_callee (f:=26) rfl ?_);refine goesL_ (some 54) rfl rfl Try.func26 (by kernel_rfl) rfl #[.string ((t329 ++ t328) ++ (⟨#[46]⟩:ByteArray)),.slice Ao127 y330.length co127] rfl (by (try simp only [List.map_toArray,List.map_cons,List.map_nil]);first|done|rfl|(simp only [List.length_drop,List.length_take];rfl)) ?_;(with_reducible refine (count_Accepts.calls k ((t329 ++ t328) ++ (⟨#[46]⟩:ByteArray)) _ _ y330 false t336 _ ?side1 ?side2 A11.out).mono ?_);(case side1=>repeat (first|exact (Kd.R_reads' HO332.out).2.2|(with_reducible refine Kd.C_alloc ?_ _)|(with_reducible refine Kd.C_drewN ?_ _)|(with_reducible refine Kd.C_drew ?_)));(case side2=>exact (Kd.R_reads' HO332.out).2.1);rintro e w129 ⟨rfl,hb⟩;refine ⟨_,rfl,?_⟩;replace HO332:=rbl HO332 hb;replace BK327:=bkb BK327 hb;replace HB:=bst HB hb;(try clear hb))|((with_reducible refine gate_callee (f:=26) rfl ?_);refine goesL_ (some 63) rfl rfl Try.func26 (by kernel_rfl) rfl #[.string ((t328 ++ t329) ++ (⟨#[43]⟩:ByteArray)),.slice Ao127 y330.length co127] rfl (by (try simp only [List.map_toArray,List.map_cons,List.map_nil]);first|done|rfl|(simp only [List.length_drop,List.length_take];rfl)) ?_;(with_reducible refine (count_Accepts.calls k ((t328 ++ t329) ++ (⟨#[43]⟩:ByteArray)) _ _ y330 false t338 _ ?side1 ?side2 A12.out).mono ?_);(case side1=>repeat (first|exact (Kd.R_reads' HO332.out).2.2|(with_reducible refine Kd.C_alloc ?_ _)|(with_reducible refine Kd.C_drewN ?_ _)|(with_reducible refine Kd.C_drew ?_)));(case side2=>exact (Kd.R_reads' HO332.out).2.1);rintro e w130 ⟨rfl,hb⟩;refine ⟨_,rfl,?_⟩;replace HO332:=rbl HO332 hb;replace BK327:=bkb BK327 hb;replace HB:=bst HB hb;(try clear hb))|((with_reducible refine gate_callee (f:=26) rfl ?_);refine goesL_ (some 72) rfl rfl Try.func26 (by kernel_rfl) rfl #[.string ((t329 ++ t328) ++ (⟨#[43]⟩:ByteArray)),.slice Ao127 y330.length co127] rfl (by (try simp only [List.map_toArray,List.map_cons,List.map_nil]);first|done|rfl|(simp only [List.length_drop,List.length_take];rfl)) ?_;(with_reducible refine (count_Accepts.calls k ((t329 ++ t328) ++ (⟨#[43]⟩:ByteArray)) _ _ y330 false t340 _ ?side1 ?side2 A13.out).mono ?_);(case side1=>repeat (first|exact (Kd.R_reads' HO332.out).2.2|(with_reducible refine Kd.C_alloc ?_ _)|(with_reducible refine Kd.C_drewN ?_ _)|(with_reducible refine Kd.C_drew ?_)));(case side2=>exact (Kd.R_reads' HO332.out).2.1);rintro e w131 ⟨rfl,hb⟩;refine ⟨_,rfl,?_⟩;replace HO332:=rbl HO332 hb;replace BK327:=bkb BK327 hb;replace HB:=bst HB hb;(try clear hb))|((with_reducible refine gate_callee (f:=26) rfl ?_);refine goesL_ (some 78) rfl rfl Try.func26 (by kernel_rfl) rfl #[.string t328,.slice Ao127 y330.length co127] rfl (by (try simp only [List.map_toArray,List.map_cons,List.map_nil]);first|done|rfl|(simp only [List.length_drop,List.length_take];rfl)) ?_;(with_reducible refine (count_Accepts.calls k t328 _ _ y330 false t342 _ ?side1 ?side2 A14.out).mono ?_);(case side1=>repeat (first|exact (Kd.R_reads' HO332.out).2.2|(with_reducible refine Kd.C_alloc ?_ _)|(with_reducible refine Kd.C_drewN ?_ _)|(with_reducible refine Kd.C_drew ?_)));(case side2=>exact (Kd.R_reads' HO332.out).2.1);rintro e w132 ⟨rfl,hb⟩;refine ⟨_,rfl,?_⟩;replace HO332:=rbl HO332 hb;replace BK327:=bkb BK327 hb;replace HB:=bst HB hb;(try clear hb))|((with_reducible refine gate_callee (f:=26) rfl ?_);refine goesL_ (some 84) rfl rfl Try.func26 (by kernel_rfl) rfl #[.string t329,.slice Ao127 y330.length co127] rfl (by (try simp only [List.map_toArray,List.map_cons,List.map_nil]);first|done|rfl|(simp only [List.length_drop,List.length_take];rfl)) ?_;(with_reducible refine (count_Accepts.calls k t329 _ _ y330 false t344 _ ?side1 ?side2 A15.out).mono ?_);(case side1=>repeat (first|exact (Kd.R_reads' HO332.out).2.2|(with_reducible refine Kd.C_alloc ?_ _)|(with_reducible refine Kd.C_drewN ?_ _)|(with_reducible refine Kd.C_drew ?_)));(case side2=>exact (Kd.R_reads' HO332.out).2.1);rintro e w133 ⟨rfl,hb⟩;refine ⟨_,rfl,?_⟩;replace HO332:=rbl HO332 hb;replace BK327:=bkb BK327 hb;replace HB:=bst HB hb;(try clear hb))|(go_at_call 22;(with_reducible refine (bellpulllaw05_lives.calls k  t350 _ A119.out).mono ?_);rintro e w134 ⟨rfl,hb⟩;replace HO332:=rbl HO332 hb;replace BK327:=bkb BK327 hb;replace HB:=bst HB hb;(try clear hb)))
                 go_ret;exact ⟨by first|rfl|(simp [errW_none,errW_some] <;> rfl)|(simp [*,errW_none,errW_some] <;> rfl),by repeat (first|(with_reducible first|exact HB.out|apply below_alloc|apply pw_below_drewN|apply below_drew1|refine below_set ?_ GE327.out)|exact HB.out)⟩
          ·
           rw [if_neg c21] at H;exact absurd H (by simp)
         ·
          rw [if_neg c20] at H;exact absurd H (by simp)
        ·
         rw [if_neg c19] at H;exact absurd H (by simp)
       ·
        rw [if_neg c18] at H;exact absurd H (by simp)
      ·
       rw [if_neg c17] at H;exact absurd H (by simp)
     ·
      rw [if_neg c16] at H;exact absurd H (by simp)
    ·
     rw [if_neg c10] at H;exact absurd H (by simp)
   ·
    rw [if_neg c9] at H;exact absurd H (by simp)
  ·
   rw [if_neg c7] at H;exact absurd H (by simp)
 ·
  rw [if_neg c6] at H;exact absurd H (by simp)
end Go.Proofs.Ytkonljiembcdlaa.PC
