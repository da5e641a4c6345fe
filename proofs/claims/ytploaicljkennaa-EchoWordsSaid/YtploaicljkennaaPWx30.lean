-- Written by pr2.py, a program of this session's, for this claim (through the kit's print).
import Derived.Test.YtploaicljkennaaPWx0
import Derived.Test.YtploaicljkennaaPWx29
namespace Go.Proofs.Ytploaicljkennaa.PW
open Go.Proofs.MyWords Go.RowKit Go.Proofs.YtploaicljkennaaW.PrintWords Go.Proofs.YtploaicljkennaaW.PrintLast Go.Proofs.YtploaicljkennaaW.PrintMore
attribute [local go_sem] max2_int min2_int max_two min_two max_three min_three max_four min_four   -- for this text's walks alone
set_option linter.unusedVariables false
set_option linter.unusedSimpArgs false

/-! ### bellpullref02_Height: function 36 -/
def bellpullref02_Height.l0:Nat → List Int → Int → Option (Int)
  | 0,_,_=>none
  | k + 1,x0,x3=>if (x0.length:Int) > 0 then ((bellpullref02_Derivative.f k x0).bind fun bt292=>(if bt292.2=true then (bellpullref02_Height.l0 k bt292.1 (wrap64 (x3 + 1))) else (some (-1)))) else (some x3)
def bellpullref02_Height.f (k:Nat) (l0:List Int):Option (Int):=bellpullref02_Height.l0 k l0 0
theorem bellpullref02_Height.mono_l:∀ k,(∀ y0 y1,LeO (bellpullref02_Height.l0 k y0 y1) (bellpullref02_Height.l0 (k + 1) y0 y1))
  | 0=>fun _ _ r h=>by simp [bellpullref02_Height.l0] at h
  | k + 1=>by
    have ih0:=bellpullref02_Height.mono_l k
    · intro y0 y1
      unfold bellpullref02_Height.l0
      with_reducible repeat' first|exact ih0 _ _|exact bellpullref02_Derivative.mono _ _|exact LeO.refl _|exact LeO.none _|refine LeO.ite ?_ ?_|refine LeO.bind ?_ (fun _=>?_)
theorem bellpullref02_Height.mono:∀ a0 k,LeO (bellpullref02_Height.f k a0) (bellpullref02_Height.f (k + 1) a0):=by
  intro a0 k
  have ih0:=bellpullref02_Height.mono_l k
  unfold bellpullref02_Height.f
  with_reducible repeat' first|exact ih0 _ _|exact bellpullref02_Derivative.mono _ _|exact LeO.refl _|exact LeO.none _|refine LeO.ite ?_ ?_|refine LeO.bind ?_ (fun _=>?_)
set_option maxHeartbeats 8000000 in
set_option maxRecDepth 100000 in
theorem bellpullref02_Height.calls (k:Nat) (P0_:Nat → Prop) (A0:Option Addr) (c0:Nat) (l0:List Int) (r:Int) (w:World) (hs0:Kd.V (Kd.int .i64) 3 w w.heap.size (fun k_=>P0_ k_) (.slice A0 l0.length c0) l0) (h:bellpullref02_Height.f k l0=some r) :
    Calls Try.prog 36 #[.slice A0 l0.length c0] w fun e w'=>e=.returned (.int .i64 r)∧Below w.heap.size w w':=by
 have HO0:=mk0 (show Kd.V (Kd.int .i64) 3 w w.heap.size (fun k_=>(P0_ k_ ∨ w.heap.size ≤ k_)) (.slice A0 l0.length c0) l0 from Kd.V_mono hs0 (fun k_ hk=>.inl hk));have HB:=mk0 (Below.refl w.heap.size w);have H:(bellpullref02_Height.l0 k l0 0)=some r:=h;clear h;have H':=mk0 H;clear H;go_enter Try.func36,Try.ntmps36;go_wp2
 go_loopg [0,3] k (fun kq v0 v3 w'=>∃ (x0_1:List Int) (x3_1:Int),v3=.int .i64 x3_1∧Aside0 (bellpullref02_Height.l0 kq x0_1 x3_1=some r)∧Aside0 (kq ≤ k)∧Aside0 (Kd.V (Kd.int .i64) 3 w' w.heap.size (fun k_=>(P0_ k_ ∨ w.heap.size ≤ k_)) v0 x0_1)∧Aside0 (Below w.heap.size w w'))
 case atStart=>exact ⟨(l0),(0),(by first|rfl|(simp;done)|(simp [*];done)),H',⟨Nat.le_refl _⟩,⟨by (with_reducible repeat (first|apply Kd.V_alloc|apply Kd.V_drewN|apply Kd.V_drew));exact HO0.out⟩,⟨by repeat (first|(with_reducible first|exact HB.out|apply below_alloc|apply pw_below_drewN|apply below_drew1)|exact HB.out)⟩⟩
 case round =>
  clear H';obtain ⟨x0_1,x3_1,rfl,HA,HK1,HO_0,HB⟩:=hrel;cases gk with
  | zero=>exact absurd HA.out (by simp [bellpullref02_Height.l0])
  | succ k1 =>
   have H:=HA.out;clear HA;simp only [bellpullref02_Height.l0] at H
   by_cases c2:(x0_1.length:Int) > 0
   ·
    rw [if_pos c2] at H;have c2b0:decide (0 < (x0_1.length:Int))=true:=decide_eq_true c2;have c2b1:decide (0 < x0_1.length)=true:=decide_eq_true (by omega);clear c2;replace H:=Option.bind_eq_some_iff.mp H;obtain ⟨⟨t292,t293⟩,A30,H⟩:=H;(try dsimp only at H);have A3:=mk0 A30;clear A30
    by_cases c4:t293=true
    ·
     subst c4;have H1:(bellpullref02_Height.l0 k1 t292 (wrap64 (x3_1 + 1)))=some r:=by rw [if_pos rfl] at H;exact H
     clear H;have H:=H1;clear H1;have H':=mk0 H;clear H;obtain ⟨Ao5,co5,eo5⟩:=Kd.V_slice HO_0.out;subst eo5;go_wp2_with (first|((with_reducible refine gate_callee (f:=35) rfl ?_);refine goesL_ (some 11) rfl rfl Try.func35 (by kernel_rfl) rfl #[.slice Ao5 x0_1.length co5] rfl (by (try simp only [List.map_toArray,List.map_cons,List.map_nil]);first|done|rfl|(simp only [List.length_drop,List.length_take];rfl)) ?_;(with_reducible refine (bellpullref02_Derivative.calls k1 _ _ x0_1 t292 true _ ?side1 ?side2 A3.out).mono ?_);(case side1=>repeat (first|exact (Kd.V_reads' HO_0.out).2.2|(with_reducible refine Kd.C_alloc ?_ _)|(with_reducible refine Kd.C_drewN ?_ _)|(with_reducible refine Kd.C_drew ?_)));(case side2=>exact (Kd.V_reads' HO_0.out).2.1);rintro e w6 ⟨v294,rfl,ho0,hb⟩;refine ⟨_,rfl,?_⟩;have HO295:=mk0 (Kd.R_lower (Kd.R_newM (M:=fun k_=>(w.heap.size ≤ k_)) ho0 (below_size HB.out) (fun k_ h_=>h_)) (below_size HB.out));replace HO_0:=mk0 (Kd.V_elder' HO_0.out (Kd.R_base ho0) hb);replace HB:=bst HB hb;(try clear hb);(try clear ho0)));go_roundg k1
     case measure=>have:=HK1.out;omega
     case rel=>exact ⟨(t292),(wrap64 (x3_1 + 1)),(by first|rfl|(simp;done)|(simp [*];done)),H',⟨by have:=HK1.out;omega⟩,⟨Kd.V_mono (Kd.R_V (by (with_reducible repeat (first|apply Kd.R_alloc|apply Kd.R_drewN|apply Kd.R_drew));exact Kd.R_mono HO295.out (fun _ hk=>hk.1))) (fun k_ hk=>by first|exact ⟨(.inr (hk.1)),hk.2⟩|exact (.inr (hk)))⟩,⟨by repeat (first|(with_reducible first|exact HB.out|apply below_alloc|apply pw_below_drewN|apply below_drew1)|exact HB.out)⟩⟩
    ·
     replace c4:=Bool.eq_false_iff.mpr c4;subst c4;have H1:(some (-1))=some r:=by rw [if_neg (show ¬ (false=true) by decide)] at H;exact H
     clear H;have H:=H1;clear H1;obtain rfl:=Option.some.inj H;obtain ⟨Ao7,co7,eo7⟩:=Kd.V_slice HO_0.out;subst eo7;go_wp2_with (first|((with_reducible refine gate_callee (f:=35) rfl ?_);refine goesL_ (some 11) rfl rfl Try.func35 (by kernel_rfl) rfl #[.slice Ao7 x0_1.length co7] rfl (by (try simp only [List.map_toArray,List.map_cons,List.map_nil]);first|done|rfl|(simp only [List.length_drop,List.length_take];rfl)) ?_;(with_reducible refine (bellpullref02_Derivative.calls k1 _ _ x0_1 t292 false _ ?side1 ?side2 A3.out).mono ?_);(case side1=>repeat (first|exact (Kd.V_reads' HO_0.out).2.2|(with_reducible refine Kd.C_alloc ?_ _)|(with_reducible refine Kd.C_drewN ?_ _)|(with_reducible refine Kd.C_drew ?_)));(case side2=>exact (Kd.V_reads' HO_0.out).2.1);rintro e w8 ⟨v294,rfl,ho0,hb⟩;refine ⟨_,rfl,?_⟩;have HO295:=mk0 (Kd.R_lower (Kd.R_newM (M:=fun k_=>(w.heap.size ≤ k_)) ho0 (below_size HB.out) (fun k_ h_=>h_)) (below_size HB.out));replace HO_0:=mk0 (Kd.V_elder' HO_0.out (Kd.R_base ho0) hb);replace HB:=bst HB hb;(try clear hb);(try clear ho0)));go_ret;exact ⟨by first|rfl|(simp [errW_none,errW_some] <;> rfl)|(simp [*,errW_none,errW_some] <;> rfl),by repeat (first|(with_reducible first|exact HB.out|apply below_alloc|apply pw_below_drewN|apply below_drew1)|exact HB.out)⟩
   ·
    rw [if_neg c2] at H;have c2b0:decide (0 < (x0_1.length:Int))=false:=decide_eq_false c2;have c2b1:decide (0 < x0_1.length)=false:=decide_eq_false (by omega);clear c2;obtain rfl:=Option.some.inj H;obtain ⟨Ao9,co9,eo9⟩:=Kd.V_slice HO_0.out;subst eo9;go_wp2;go_ret;exact ⟨by first|rfl|(simp [errW_none,errW_some] <;> rfl)|(simp [*,errW_none,errW_some] <;> rfl),by repeat (first|(with_reducible first|exact HB.out|apply below_alloc|apply pw_below_drewN|apply below_drew1)|exact HB.out)⟩
end Go.Proofs.Ytploaicljkennaa.PW
