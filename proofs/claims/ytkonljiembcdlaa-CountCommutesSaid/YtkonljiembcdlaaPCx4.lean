import Derived.Test.YtkonljiembcdlaaPCx0
import Derived.Test.YtkonljiembcdlaaPCx2
import Derived.Test.YtkonljiembcdlaaPCx3
namespace Go.Proofs.Ytkonljiembcdlaa.PC
open Go.Proofs.MyWords Go.RowKit Go.Proofs.YtkonljiembcdlaaW.PrintWords Go.Proofs.YtkonljiembcdlaaW.PrintLast Go.Proofs.YtkonljiembcdlaaW.PrintMore
attribute [local go_sem] max2_int min2_int max_two min_two max_three min_three max_four min_four   -- for this text's walks alone
set_option linter.unusedVariables false
set_option linter.unusedSimpArgs false
attribute [local go_sem] eqGuard_slices eqlnil23 neqnil23 eqlnil58 neqnil58
mutual
def count_star.l0:Nat → Int → List (S60) → List (S60) → Int → Option ((List (S60)))
  | 0,_,_,_,_=>none
  | k + 1,x0,x1,x5,x6=>if x6 < (shl .i64 1 (x1.length:Int)) then (if 0 ≤ x0 then (if (x0:Int).toNat ≤ 35184372088832 then (count_star.l1 k x0 x1 x5 x6 x1 (x1.length:Int) 0 (List.replicate (x0:Int).toNat 0) ([]:List (List Int))) else (none)) else (none)) else (some x5)
def count_star.l1:Nat → Int → List (S60) → List (S60) → Int → List (S60) → Int → Int → List Int → List (List Int) → Option ((List (S60)))
  | 0,_,_,_,_,_,_,_,_,_=>none
  | k + 1,x0,x1,x5,x6,x24,x25,x26,x208000,x208001=>if x26 < x25 then (if 0 ≤ x26 then (if x26 < (x24.length:Int) then (if (Go.bits .and .i64 (shr .i64 x6 x26) 1)=1 then ((count_plus.f k x208000 ((rd_T60 x24 x26).f0)).bind fun t213=>((some (([(rd_T60 x24 x26).f0]:List (List Int)):List (List Int))).bind fun y216=>(if y216.length + ((rd_T60 x24 x26).f1).length < 5864062014805 then ((count_copies.f k (y216 ++ ((rd_T60 x24 x26).f1))).bind fun t222=>(if x208001.length + t222.length < 5864062014805 then (count_star.l1 k x0 x1 x5 x6 x24 x25 (wrap64 (x26 + 1)) t213 (x208001 ++ t222)) else (none))) else (none)))) else (count_star.l1 k x0 x1 x5 x6 x24 x25 (wrap64 (x26 + 1)) x208000 x208001)) else (none)) else (none)) else (if x5.length < 2932031007402 then (count_star.l0 k x0 x1 (x5 ++ [(⟨x208000,x208001⟩:S60)]) (wrap64 (x6 + 1))) else (none))
end
def count_star.f (k:Nat) (a0:Int) (l1:List (S60)):Option ((List (S60))):=if 0 ≤ a0 then (if (a0:Int).toNat ≤ 35184372088832 then (count_star.l0 k a0 l1 (([(⟨(List.replicate (a0:Int).toNat 0),([]:List (List Int))⟩:S60)]:List (S60))) 1) else (none)) else (none)
theorem count_star.mono_l:∀ k,(∀ y0 y1 y2 y3,LeO (count_star.l0 k y0 y1 y2 y3) (count_star.l0 (k + 1) y0 y1 y2 y3))∧(∀ y0 y1 y2 y3 y4 y5 y6 y7 y8,LeO (count_star.l1 k y0 y1 y2 y3 y4 y5 y6 y7 y8) (count_star.l1 (k + 1) y0 y1 y2 y3 y4 y5 y6 y7 y8))
  | 0=>⟨fun _ _ _ _ r h=>by simp [count_star.l0] at h,fun _ _ _ _ _ _ _ _ _ r h=>by simp [count_star.l1] at h⟩
  | k + 1=>by
    obtain ⟨ih0,ih1⟩:=count_star.mono_l k
    refine ⟨?_,?_⟩
    · intro y0 y1 y2 y3
      unfold count_star.l0
      with_reducible repeat' first|exact ih0 _ _ _ _|exact ih1 _ _ _ _ _ _ _ _ _|exact count_copies.mono _ _|exact count_plus.mono _ _ _|exact LeO.refl _|exact LeO.none _|refine LeO.ite ?_ ?_|refine LeO.bind ?_ (fun _=>?_)
    · intro y0 y1 y2 y3 y4 y5 y6 y7 y8
      unfold count_star.l1
      with_reducible repeat' first|exact ih0 _ _ _ _|exact ih1 _ _ _ _ _ _ _ _ _|exact count_copies.mono _ _|exact count_plus.mono _ _ _|exact LeO.refl _|exact LeO.none _|refine LeO.ite ?_ ?_|refine LeO.bind ?_ (fun _=>?_)
theorem count_star.mono:∀ a0 a1 k,LeO (count_star.f k a0 a1) (count_star.f (k + 1) a0 a1):=by
  intro a0 a1 k
  obtain ⟨ih0,ih1⟩:=count_star.mono_l k
  unfold count_star.f
  with_reducible repeat' first|exact ih0 _ _ _ _|exact ih1 _ _ _ _ _ _ _ _ _|exact count_copies.mono _ _|exact count_plus.mono _ _ _|exact LeO.refl _|exact LeO.none _|refine LeO.ite ?_ ?_|refine LeO.bind ?_ (fun _=>?_)
def count_star.T11:Bool × List (List Nat × List Nat):=(true,[([],[]),([0],[0]),([],[]),([2],[2]),([3],[3]),([],[]),([5],[5]),([4,6],[4,6]),([7,7],[7]),([1,8,8],[1,8]),([0,1,2,3,4,5,6,7,8,9],[]),([10,9,9,0,1,2,3,4,5,6,7,8,9],[9,10])])
def count_star.B11:List Nat:=[0,1,0,4,12,0,32,124,252,511,1023,2047]
theorem count_star.tab11:rtab .any (opsOf Try.f71 11)=count_star.T11:=by kernel_rfl
theorem count_star.bits11:waitsOk count_star.T11.2 count_star.B11=true:=by kernel_rfl
set_option maxHeartbeats 8000000 in
set_option maxRecDepth 100000 in
theorem count_star.calls (k:Nat) (a0:Int) (P1_:Nat → Prop) (A1:Option Addr) (c1:Nat) (l1:List (S60)) (r:List (S60)) (w:World) (hs1:Kd.V k60 60 w w.heap.size (fun k_=>P1_ k_) (.slice A1 l1.length c1) l1) (h:count_star.f k a0 l1=some r) :
    Calls Try.prog 71 #[.int .i64 a0,.slice A1 l1.length c1] w fun e w'=>∃ v0_:Value,e=.returned (v0_)∧Kd.N k60 60 w' w.heap.size (fun k_=>(P1_ k_ ∨ w.heap.size ≤ k_)) v0_ r∧Below w.heap.size w w':=by
 have hu60:=Try.underlying60;have HO1:=mk0 (show Kd.V k60 60 w w.heap.size (fun k_=>(P1_ k_ ∨ w.heap.size ≤ k_)) (.slice A1 l1.length c1) l1 from Kd.V_mono hs1 (fun k_ hk=>.inl hk));have HB:=mk0 (Below.refl w.heap.size w);have H:(if 0 ≤ a0 then (if (a0:Int).toNat ≤ 35184372088832 then (count_star.l0 k a0 l1 (([(⟨(List.replicate (a0:Int).toNat 0),([]:List (List Int))⟩:S60)]:List (S60))) 1) else (none)) else (none))=some r:=h;clear h
 by_cases c3:0 ≤ a0
 ·
  rw [if_pos c3] at H;have c3b0:=eq_true c3;have c3b1:decide (0 ≤ a0)=true:=decide_eq_true c3;clear c3
  by_cases c4:(a0:Int).toNat ≤ 35184372088832
  ·
   rw [if_pos c4] at H;have c4b0:=eq_true c4;have c4b1:decide ((a0:Int).toNat ≤ 35184372088832)=true:=decide_eq_true c4;clear c4;obtain ⟨y198,hy198⟩:∃ y_:List Int,y_=(List.replicate (a0:Int).toNat 0):=⟨_,rfl⟩
   replace H:(count_star.l0 k a0 l1 (([(⟨y198,([]:List (List Int))⟩:S60)]:List (S60))) 1)=some r:=by first|(rw [hy198];with_reducible exact H)|(have H2_:=(Option.bind_some _ _).symm.trans H;rw [hy198];with_reducible exact H2_)|(have H2_:=(Option.bind_some _ _).symm.trans H;with_reducible exact H2_)|with_reducible exact H|(rw [hy198];exact H)|exact H
   have Ny198:=mk0 hy198;clear hy198;obtain ⟨y201,hy201⟩:∃ y_:List (S60),y_=(([(⟨y198,([]:List (List Int))⟩:S60)]:List (S60))):=⟨_,rfl⟩
   replace H:(count_star.l0 k a0 l1 y201 1)=some r:=by first|(rw [hy201];with_reducible exact H)|(have H2_:=(Option.bind_some _ _).symm.trans H;rw [hy201];with_reducible exact H2_)|(have H2_:=(Option.bind_some _ _).symm.trans H;with_reducible exact H2_)|with_reducible exact H|(rw [hy201];exact H)|exact H
   have Ny201:=mk0 hy201;clear hy201;have H':=mk0 H;clear H;go_enter Try.func71,Try.ntmps71;go_wp2_with (first|((with_reducible refine gate_dst (N:=11) rfl ?_);refine Kd.R_make (Kd.int .i64) _ 3 rfl (N:=11) rfl 23 _ _ rfl a0 rfl rfl Try.underlying23 (.int .i64 0) 8 info3 rfl (by decide) (by omega) 0 (ok:=fun _=>True) (okp:=fun _=>True) rfl (fun _ hk=>hk) trivial (of_decide_eq_true (by first|(with_reducible assumption)|assumption)) (Nat.le_trans (Nat.mul_le_mul_right _ (of_decide_eq_true (by first|(with_reducible assumption)|assumption):a0.toNat ≤ 35184372088832)) (by omega)) (Below.refl _ _) (Nat.le_refl _) ?_;intro v199 w5 ho6 hb hg_ hnew_;clear hg_ hnew_;(first|rw [← Ny198.out] at ho6|(simp only [Int.reduceToNat] at ho6;rw [← Ny198.out] at ho6));have HO200:=mk0 (Kd.R_lower (Kd.R_newM (M:=fun k_=>(w.heap.size ≤ k_)) ho6 (below_size HB.out) (fun k_ h_=>h_)) (below_size HB.out));replace HO1:=mk0 (Kd.V_elder' HO1.out (Kd.R_base ho6) hb);replace HB:=bst HB hb;clear hb ho6;obtain ⟨Ao7,co7,eo7⟩:=Kd.R_slice HO200.out;subst eo7)|((with_reducible refine gate_dst (N:=13) rfl ?_);refine Kd.N_lit k60 _ 60 ?hg (N':=13) ?hd (xs:=([(⟨y198,([]:List (List Int))⟩:S60)]:List (S60))) (inner:=[.slice Ao7 y198.length co7,.slice none 0 0]) (ok:=(fun k_=>(P1_ k_ ∨ w.heap.size ≤ k_))) (okp:=(fun k_=>(P1_ k_ ∨ w.heap.size ≤ k_))) ?hr ?hp (fun _ hk=>hk) ((show ∀ k_,w5.heap.size ≤ k_ → (fun k_=>(P1_ k_ ∨ w.heap.size ≤ k_)) k_ from fun k_ hk=>(.inr (Nat.le_trans (below_size HB.out) hk))) _ (Nat.le_refl _)) (Below.refl _ _) (Nat.le_refl _) (by simp) ?_;(case hd=>rfl);(case hg=>rfl);(case hr=>first|(go_simp;done)|(go_simp;rfl));(case hp=>exact (Reps.c2 (show Kd.FK k60 _ _ (⟨y198,([]:List (List Int))⟩:S60) [.slice Ao7 y198.length co7,.slice none 0 0] from (k60_mkF _ _ (⟨y198,([]:List (List Int))⟩:S60) (Kd.R_reads' (Kd.R_mono (ok':=(fun k_=>(P1_ k_ ∨ w.heap.size ≤ k_))) (HO200.out) (fun k_ hk=>(.inr (hk.1))))).2.1 (Kd.R_F (Kd.R_mono (ok':=(fun k_=>(P1_ k_ ∨ w.heap.size ≤ k_))) (HO200.out) (fun k_ hk=>(.inr (hk.1))))) (Nat.le_refl _) (Kd.F_nil _ _ _))) (Reps.none _ _)));intro v202 w8 ho9 hb hg_ hnew_;clear hg_ hnew_;(first|rw [← Ny201.out] at ho9|(simp only [Int.reduceToNat] at ho9;rw [← Ny201.out] at ho9));have HO203:=mk0 (Kd.N_lower ho9 (below_size HB.out));replace HO1:=mk0 (Kd.V_elder' HO1.out (by first|exact Kd.N_base ho9|exact Kd.S_base ho9|exact Kd.R_base ho9) hb);replace HB:=bst HB hb;clear HO200;clear hb ho9))
   go_loopg [5,6] k (fun kq v5 v6 w'=>∃ (x5_1:List (S60)) (x6_1:Int),v6=.int .i64 x6_1∧Aside0 (count_star.l0 kq a0 l1 x5_1 x6_1=some r)∧Aside0 (kq ≤ k)∧Aside0 (Kd.V k60 60 w' w.heap.size (fun k_=>(P1_ k_ ∨ w.heap.size ≤ k_)∧some k_ ≠ (v5:Value).ownBlock) (.slice A1 l1.length c1) l1)∧Aside0 (Kd.N k60 60 w' w.heap.size (fun k_=>(P1_ k_ ∨ w.heap.size ≤ k_)) v5 x5_1)∧Aside0 (Below w.heap.size w w'))
   case atStart=>exact ⟨(y201),(1),(by first|rfl|(simp;done)|(simp [*];done)),H',⟨Nat.le_refl _⟩,⟨by (with_reducible repeat (first|apply Kd.V_alloc|apply Kd.V_drewN|apply Kd.V_drew));exact Kd.V_mono HO1.out (fun _ hk=>⟨hk.1.1,hk.2⟩)⟩,⟨by (with_reducible repeat (first|apply Kd.N_alloc|apply Kd.N_drewN|apply Kd.N_drew));exact HO203.out⟩,⟨by repeat (first|(with_reducible first|exact HB.out|apply below_alloc|apply pw_below_drewN|apply below_drew1)|exact HB.out)⟩⟩
   case round =>
    clear H';try clear c1
    try clear c2
    try clear p2
    try clear c3
    try clear c3b0
    try clear c3b1
    try clear c4
    try clear c4b0
    try clear c4b1
    try clear c7
    obtain ⟨x5_1,x6_1,rfl,HA,HK1,HO_1,HO_5,HB⟩:=hrel;cases gk with
    | zero=>exact absurd HA.out (by simp [count_star.l0])
    | succ k1 =>
     have H:=HA.out;clear HA;simp only [count_star.l0] at H;obtain ⟨ji10,hji10⟩:∃ j_:Int,(shl .i64 1 (l1.length:Int))=j_:=⟨_,rfl⟩
     replace H:(if x6_1 < (ji10) then (if 0 ≤ a0 then (if (a0:Int).toNat ≤ 35184372088832 then (count_star.l1 k1 a0 l1 x5_1 x6_1 l1 (l1.length:Int) 0 (List.replicate (a0:Int).toNat 0) ([]:List (List Int))) else (none)) else (none)) else (some x5_1))=some r:=by first|(rw [hji10] at H;exact H)|(simp only [hji10] at H ⊢;exact H)
     have hji10_:(IntKind.i64.wrap (1 * 2 ^ min (l1.length:Int).toNat 64))=ji10:=hji10;have hji10z:(l1.length:Int) ≤ 64 → (IntKind.i64.wrap (1 * 2 ^ (l1.length:Int).toNat))=ji10:=shl_small hji10;have hji10p:(IntKind.i64.wrap (1 * 2 ^ min l1.length 64))=ji10:=hji10_;have hji10q:(l1.length:Int) ≤ 64 → (IntKind.i64.wrap (1 * 2 ^ l1.length))=ji10:=hji10z;have hji10r:(IntKind.i64.wrap (2 ^ min l1.length 64))=ji10:=by have h_:=hji10p;rw [Int.one_mul] at h_;exact h_
     have hji10s:(l1.length:Int) ≤ 64 → (IntKind.i64.wrap (2 ^ l1.length))=ji10:=fun hle_=>by have h_:=hji10q hle_;rw [Int.one_mul] at h_;exact h_
     have hji10u:(IntKind.i64.wrap (2 ^ min (l1.length:Int).toNat 64))=ji10:=by have h_:=hji10_;rw [Int.one_mul] at h_;exact h_
     have hji10v:(l1.length:Int) ≤ 64 → (IntKind.i64.wrap (2 ^ (l1.length:Int).toNat))=ji10:=fun hle_=>by have h_:=hji10z hle_;rw [Int.one_mul] at h_;exact h_
     have hji10y:(wrap64 (1 * 2 ^ min (l1.length:Int).toNat 64))=ji10:=(i64_w _).symm.trans hji10_;have hji10x:(l1.length:Int) ≤ 64 → (wrap64 (1 * 2 ^ (l1.length:Int).toNat))=ji10:=fun h_=>(i64_w _).symm.trans (hji10z h_)
     by_cases c11:x6_1 < (ji10)
     ·
      rw [if_pos c11] at H;have c11b0:decide (x6_1 < (ji10))=true:=decide_eq_true c11;clear c11
      by_cases c12:0 ≤ a0
      ·
       rw [if_pos c12] at H;have c12b0:=eq_true c12;have c12b1:decide (0 ≤ a0)=true:=decide_eq_true c12;clear c12
       by_cases c13:(a0:Int).toNat ≤ 35184372088832
       ·
        rw [if_pos c13] at H;have c13b0:=eq_true c13;have c13b1:decide ((a0:Int).toNat ≤ 35184372088832)=true:=decide_eq_true c13;clear c13;obtain ⟨y204,hy204⟩:∃ y_:List Int,y_=(List.replicate (a0:Int).toNat 0):=⟨_,rfl⟩
        replace H:(count_star.l1 k1 a0 l1 x5_1 x6_1 l1 (l1.length:Int) 0 y204 ([]:List (List Int)))=some r:=by first|(rw [hy204];with_reducible exact H)|(have H2_:=(Option.bind_some _ _).symm.trans H;rw [hy204];with_reducible exact H2_)|(have H2_:=(Option.bind_some _ _).symm.trans H;with_reducible exact H2_)|with_reducible exact H|(rw [hy204];exact H)|exact H
        have Ny204:=mk0 hy204;clear hy204;have H':=mk0 H;clear H;go_wp2_with (first|((with_reducible refine gate_dst (N:=22) rfl ?_);refine Kd.R_make (Kd.int .i64) _ 3 rfl (N:=22) rfl 23 _ _ rfl a0 rfl rfl Try.underlying23 (.int .i64 0) 8 info3 rfl (by decide) (by omega) 0 (ok:=fun _=>True) (okp:=fun _=>True) rfl (fun _ hk=>hk) trivial (of_decide_eq_true (by first|(with_reducible assumption)|assumption)) (Nat.le_trans (Nat.mul_le_mul_right _ (of_decide_eq_true (by first|(with_reducible assumption)|assumption):a0.toNat ≤ 35184372088832)) (by omega)) (Below.refl _ _) (Nat.le_refl _) ?_;intro v205 w14 ho15 hb hg_ hnew_;clear hg_ hnew_;(first|rw [← Ny204.out] at ho15|(simp only [Int.reduceToNat] at ho15;rw [← Ny204.out] at ho15));have HO206:=mk0 (Kd.R_lower (Kd.R_newM (M:=fun k_=>(w.heap.size ≤ k_)) ho15 (below_size HB.out) (fun k_ h_=>h_)) (below_size HB.out));replace HO_1:=mk0 (Kd.V_elder' HO_1.out (Kd.R_base ho15) hb);replace HO_5:=mk0 (Kd.N_elder' HO_5.out (Kd.R_base ho15) hb);replace HB:=bst HB hb;clear hb ho15;obtain ⟨Ao16,co16,eo16⟩:=Kd.R_slice HO206.out;subst eo16)|((with_reducible refine gate_dst (N:=7) rfl ?_);refine box_event ?hg (N:=7) ?hd (cs:=#[.slice none 0 0,.slice none 0 0]) (t:=60) ?hr ?_;(case hd=>rfl);(case hg=>rfl);(case hr=>first|(go_simp;done)|(go_simp;rfl));intro gb207 hg w17 hbox hb;have BK207:=mk0 (hbox);have GW207:=szw hg HB;have GE207:=GW207;replace HO_1:=mk0 (Kd.V_below (Kd.V_elderB HO_1.out gb207 (Nat.le_of_eq hg.symm)) hb);replace HO_5:=mk0 (Kd.N_below (Kd.N_elderB HO_5.out gb207 (Nat.le_of_eq hg.symm)) hb);replace HO206:=rbl HO206 hb;replace HB:=bst HB hb;clear hb hbox hg;have hcz18_0:w17.cell? ⟨gb207,0,none⟩=some (.slice none 0 0):=(blk_cell BK207.out 0).trans rfl;have hcz18_1:w17.cell? ⟨gb207,1,none⟩=some (.slice none 0 0):=(blk_cell BK207.out 1).trans rfl;have hfz18_0:=blk_frozen BK207.out 0;have hfz18_1:=blk_frozen BK207.out 1))
        go_loopg [26] k1 (fun kq v26 w'=>∃ (x26_2:Int) (x208000_2:List Int) (x208001_2:List (List Int)) (u208000:Value) (u208001:Value),v26=.int .i64 x26_2∧Aside0 (count_star.l1 kq a0 l1 x5_1 x6_1 l1 (l1.length:Int) x26_2 x208000_2 x208001_2=some r)∧Aside0 (kq ≤ k1)∧Aside0 (Kd.V k60 60 w' w.heap.size (fun k_=>(P1_ k_ ∨ w.heap.size ≤ k_)∧some k_ ≠ (u5:Value).ownBlock∧some k_ ≠ (u208000:Value).ownBlock∧some k_ ≠ (u208001:Value).ownBlock∧k_ ≠ gb207) (.slice A1 l1.length c1) l1)∧Aside0 (Kd.N k60 60 w' w.heap.size (fun k_=>(P1_ k_ ∨ w.heap.size ≤ k_)∧some k_ ≠ (u208000:Value).ownBlock∧some k_ ≠ (u208001:Value).ownBlock∧k_ ≠ gb207) u5 x5_1)∧Aside0 (Kd.V k60 60 w' w.heap.size (fun k_=>(P1_ k_ ∨ w.heap.size ≤ k_)∧some k_ ≠ (u5:Value).ownBlock∧some k_ ≠ (u208000:Value).ownBlock∧some k_ ≠ (u208001:Value).ownBlock∧k_ ≠ gb207) (.slice A1 l1.length c1) l1)∧Aside0 (Kd.R (Kd.int .i64) 3 w' w.heap.size (fun k_=>(w.heap.size ≤ k_)) u208000 x208000_2)∧Aside0 (Kd.N (Kd.slice 3 (Kd.int .i64)) 23 w' w.heap.size (fun k_=>(P1_ k_ ∨ w.heap.size ≤ k_)∧some k_ ≠ (u5:Value).ownBlock∧some k_ ≠ (u208000:Value).ownBlock∧k_ ≠ gb207) u208001 x208001_2)∧Aside0 (w'.heap[gb207]?=some (.cells #[u208000,u208001] 60 (0,0)))∧Aside0 (Below w.heap.size w w'))
        case atStart=>exact ⟨(0),(y204),(([]:List (List Int))),(.slice Ao16 y204.length co16),(.slice none 0 0),(by first|rfl|(simp;done)|(simp [*];done)),H',⟨Nat.le_refl _⟩,⟨by (with_reducible repeat (first|apply Kd.V_alloc|apply Kd.V_drewN|apply Kd.V_drew));exact Kd.V_mono (Kd.V_far (p:=⟨gb207,1,none⟩) (Kd.V_far (p:=⟨gb207,0,none⟩) (Kd.V_mono HO_1.out (fun k_ hk=>(⟨hk,hk.2⟩:_∧k_ ≠ gb207))) (fun _ hk=>hk.2) (.slice Ao16 y204.length co16)) (fun _ hk=>hk.2) (.slice none 0 0)) (fun _ hk=>⟨hk.1.1.1.1,⟨hk.1.1.1.2,⟨hk.1.1.2,⟨(by simp [Value.ownBlock]),hk.1.2⟩⟩⟩⟩)⟩,⟨by (with_reducible repeat (first|apply Kd.N_alloc|apply Kd.N_drewN|apply Kd.N_drew));exact Kd.N_mono (Kd.N_far (p:=⟨gb207,1,none⟩) (Kd.N_far (p:=⟨gb207,0,none⟩) (Kd.N_mono HO_5.out (fun k_ hk=>(⟨hk,hk.2⟩:_∧k_ ≠ gb207))) (fun _ hk=>hk.2) (.slice Ao16 y204.length co16)) (fun _ hk=>hk.2) (.slice none 0 0)) (fun _ hk=>⟨hk.1.1.1,⟨hk.1.1.2,⟨(by simp [Value.ownBlock]),hk.1.2⟩⟩⟩)⟩,⟨by (with_reducible repeat (first|apply Kd.V_alloc|apply Kd.V_drewN|apply Kd.V_drew));exact Kd.V_mono (Kd.V_far (p:=⟨gb207,1,none⟩) (Kd.V_far (p:=⟨gb207,0,none⟩) (Kd.V_mono HO_1.out (fun k_ hk=>(⟨hk,hk.2⟩:_∧k_ ≠ gb207))) (fun _ hk=>hk.2) (.slice Ao16 y204.length co16)) (fun _ hk=>hk.2) (.slice none 0 0)) (fun _ hk=>⟨hk.1.1.1.1,⟨hk.1.1.1.2,⟨hk.1.1.2,⟨(by simp [Value.ownBlock]),hk.1.2⟩⟩⟩⟩)⟩,⟨by (with_reducible repeat (first|apply Kd.R_alloc|apply Kd.R_drewN|apply Kd.R_drew));exact Kd.R_mono (Kd.R_far (p:=⟨gb207,1,none⟩) (Kd.R_far (p:=⟨gb207,0,none⟩) (Kd.R_types HO206.out BK207.out (by decide)) (fun _ hk=>hk.2) (.slice Ao16 y204.length co16)) (fun _ hk=>hk.2) (.slice none 0 0)) (fun _ hk=>hk.1.1)⟩,⟨by first|exact Kd.S_nil _ _ _ _ _|exact Kd.N_nil _ _ _ _ _|exact Kd.V_nil _ _ _ _ _|exact Kd.Q_nil _ _ _ _ _|exact Kd.R_nil _ _ _ _ _⟩,⟨by refine blk_put (cs:=#[.slice Ao16 y204.length co16,.slice none 0 0]) ?_ 1 _ rfl;refine blk_put (cs:=#[.slice none 0 0,.slice none 0 0]) ?_ 0 _ rfl;exact BK207.out⟩,⟨by repeat (first|(with_reducible first|exact HB.out|apply below_alloc|apply pw_below_drewN|apply below_drew1|refine below_set ?_ GE207.out)|exact HB.out)⟩⟩
        case round =>
         clear H';try clear c1
         try clear c2
         try clear p2
         try clear c3
         try clear c3b0
         try clear c3b1
         try clear c4
         try clear c4b0
         try clear c4b1
         try clear p6
         try clear c7
         try clear c11
         try clear c11b0
         try clear c12
         try clear c12b0
         try clear c12b1
         try clear c13
         try clear c13b0
         try clear c13b1
         try clear hcz18_0
         try clear hcz18_1
         try clear hfz18_0
         try clear hfz18_1
         try clear p2
         obtain ⟨x26_2,x208000_2,x208001_2,u208000,u208001,rfl,HA,HK2,HO_1,HO_5,HO_24,HO_208000,HO_208001,BK207,HB⟩:=hrel;cases gk with
         | zero=>exact absurd HA.out (by simp [count_star.l1])
         | succ k2 =>
          have H:=HA.out;clear HA;simp only [count_star.l1] at H
          by_cases c19:x26_2 < (l1.length:Int)
          ·
           rw [if_pos c19] at H;have c19b0:decide (x26_2 < (l1.length:Int))=true:=decide_eq_true c19;clear c19
           by_cases c20:0 ≤ x26_2
           ·
            rw [if_pos c20] at H;have c20b0:decide (0 ≤ x26_2)=true:=decide_eq_true c20;clear c20
            by_cases c21:x26_2 < (l1.length:Int)
            ·
             rw [if_pos c21] at H;have c21b0:decide (x26_2 < (l1.length:Int))=true:=decide_eq_true c21;clear c21;have c22b0:=eq_true (of_decide_eq_true (by first|(with_reducible assumption)|assumption):0 ≤ x26_2);obtain ⟨ji23,hji23⟩:∃ j_:Int,(shr .i64 x6_1 x26_2)=j_:=⟨_,rfl⟩
             replace H:(if (Go.bits .and .i64 (ji23) 1)=1 then ((count_plus.f k2 x208000_2 ((rd_T60 l1 x26_2).f0)).bind fun t213=>((some (([(rd_T60 l1 x26_2).f0]:List (List Int)):List (List Int))).bind fun y216=>(if y216.length + ((rd_T60 l1 x26_2).f1).length < 5864062014805 then ((count_copies.f k2 (y216 ++ ((rd_T60 l1 x26_2).f1))).bind fun t222=>(if x208001_2.length + t222.length < 5864062014805 then (count_star.l1 k2 a0 l1 x5_1 x6_1 l1 (l1.length:Int) (wrap64 (x26_2 + 1)) t213 (x208001_2 ++ t222)) else (none))) else (none)))) else (count_star.l1 k2 a0 l1 x5_1 x6_1 l1 (l1.length:Int) (wrap64 (x26_2 + 1)) x208000_2 x208001_2))=some r:=by first|(rw [hji23] at H;exact H)|(simp only [hji23] at H ⊢;exact H)
             have hji23_:(x6_1 / 2 ^ min x26_2.toNat 64)=ji23:=hji23;have hji23z:x26_2 ≤ 64 → (x6_1 / 2 ^ x26_2.toNat)=ji23:=shr_small hji23
             by_cases c24:(Go.bits .and .i64 (ji23) 1)=1
             ·
              rw [if_pos c24] at H;have c24b0:((Go.bits .and .i64 (ji23) 1) == 1)=true:=beq_iff_eq.mpr c24;have c24b1:((Go.bits .and .i64 (ji23) 1) != 1)=false:=bne_eq_false_iff_eq.mpr c24;clear c24;replace H:=Option.bind_eq_some_iff.mp H;obtain ⟨t213,A250,H⟩:=H;(try dsimp only at H);have A25:=mk0 A250;clear A250;obtain ⟨y216,hy216⟩:∃ y_:List (List Int),y_=(([(rd_T60 l1 x26_2).f0]:List (List Int))):=⟨_,rfl⟩
              replace H:(if y216.length + ((rd_T60 l1 x26_2).f1).length < 5864062014805 then ((count_copies.f k2 (y216 ++ ((rd_T60 l1 x26_2).f1))).bind fun t222=>(if x208001_2.length + t222.length < 5864062014805 then (count_star.l1 k2 a0 l1 x5_1 x6_1 l1 (l1.length:Int) (wrap64 (x26_2 + 1)) t213 (x208001_2 ++ t222)) else (none))) else (none))=some r:=by first|(rw [hy216];with_reducible exact H)|(have H2_:=(Option.bind_some _ _).symm.trans H;rw [hy216];with_reducible exact H2_)|(have H2_:=(Option.bind_some _ _).symm.trans H;with_reducible exact H2_)|with_reducible exact H|(rw [hy216];exact H)|exact H
              have Ny216:=mk0 hy216;clear hy216
              by_cases c26:y216.length + ((rd_T60 l1 x26_2).f1).length < 5864062014805
              ·
               rw [if_pos c26] at H;have LMc26:=mk0 c26;clear c26;obtain ⟨y219,hy219⟩:∃ y_:List (List Int),y_=(y216 ++ ((rd_T60 l1 x26_2).f1)):=⟨_,rfl⟩
               replace H:((count_copies.f k2 y219).bind fun t222=>(if x208001_2.length + t222.length < 5864062014805 then (count_star.l1 k2 a0 l1 x5_1 x6_1 l1 (l1.length:Int) (wrap64 (x26_2 + 1)) t213 (x208001_2 ++ t222)) else (none)))=some r:=by first|(rw [hy219];with_reducible exact H)|(have H2_:=(Option.bind_some _ _).symm.trans H;rw [hy219];with_reducible exact H2_)|(have H2_:=(Option.bind_some _ _).symm.trans H;with_reducible exact H2_)|with_reducible exact H|(rw [hy219];exact H)|exact H
               have Ny219:=mk0 hy219;clear hy219;replace H:=Option.bind_eq_some_iff.mp H;obtain ⟨t222,A270,H⟩:=H;(try dsimp only at H);have A27:=mk0 A270;clear A270
               by_cases c28:x208001_2.length + t222.length < 5864062014805
               ·
                rw [if_pos c28] at H;have LMc28:=mk0 c28;clear c28;obtain ⟨y225,hy225⟩:∃ y_:List (List Int),y_=(x208001_2 ++ t222):=⟨_,rfl⟩
                replace H:(count_star.l1 k2 a0 l1 x5_1 x6_1 l1 (l1.length:Int) (wrap64 (x26_2 + 1)) t213 y225)=some r:=by first|(rw [hy225];with_reducible exact H)|(have H2_:=(Option.bind_some _ _).symm.trans H;rw [hy225];with_reducible exact H2_)|(have H2_:=(Option.bind_some _ _).symm.trans H;with_reducible exact H2_)|with_reducible exact H|(rw [hy225];exact H)|exact H
                have Ny225:=mk0 hy225;clear hy225;have H':=mk0 H;clear H;have p211:0 ≤ (x26_2:Int):=of_decide_eq_true (by first|(with_reducible assumption)|assumption);have q211:x26_2 < (l1.length:Int):=of_decide_eq_true (by first|(with_reducible assumption)|assumption);obtain ⟨ad211,A211_0,c211_0,A211_1,c211_1,e211,hx211_0,hx211_1,hl211_0,hi211_0,hl211_1,hi211_1⟩:=at_T60 (Kd.V_reads' HO_24.out).2.2 x26_2 p211 q211;cases e211;obtain ⟨ce211,hce211,hMe211,hcc211⟩:=Kd.V_get HO_24.out z60 x26_2 p211 (by first|exact q211|exact of_decide_eq_true (by first|(with_reducible assumption)|assumption)|(have e_:=(Kd.V_reads' HO_24.out).1;omega));obtain ⟨ua211_0,uc211_0,ua211_1,uc211_1,rfl,ul211_0,ge211_0,ul211_1,ge211_1⟩:=k60_openF hMe211;have hv211_0:=hcc211 0 _ rfl;rw [Nat.add_zero] at hv211_0;replace hv211_0:=Option.some.inj (hv211_0.symm.trans hx211_0);injection hv211_0 with hva_ hvn_ hvc_;rw [hva_] at ge211_0;rw [hvc_] at ul211_0;have HL211_0:=mk0 (show Kd.V (Kd.int .i64) 3 _ w.heap.size _ _ ((rd_T60 l1 x26_2).f0) from Kd.V_mk ul211_0 ge211_0);clear hva_ hvn_ hvc_ ge211_0 ul211_0;have hv211_1:=hcc211 1 _ rfl;rw [add_field _ _ 1 (by omega)] at hv211_1;replace hv211_1:=Option.some.inj (hv211_1.symm.trans hx211_1);injection hv211_1 with hva_ hvn_ hvc_;rw [hva_] at ge211_1;rw [hvc_] at ul211_1;have HL211_1:=mk0 (show Kd.V (Kd.slice 3 (Kd.int .i64)) 23 _ w.heap.size _ _ ((rd_T60 l1 x26_2).f1) from Kd.V_mk ul211_1 ge211_1);clear hva_ hvn_ hvc_ ge211_1 ul211_1;clear hcc211 hce211;have HR211_0:=mk0 hi211_0;have HC211_0:=mk0 hl211_0;clear hi211_0 hl211_0;have HR211_1:=mk0 hi211_1;have HC211_1:=mk0 hl211_1;clear hi211_1 hl211_1;replace p211:=eq_true p211;replace q211:=eq_true q211;try go_wp2_with (first|((with_reducible refine gate_dst (N:=9) rfl ?_);refine box_event ?hg (N:=9) ?hd (cs:=#[.slice none 0 0,.slice none 0 0]) (t:=60) ?hr ?_;(case hd=>rfl);(case hg=>rfl);(case hr=>first|(go_simp;done)|(go_simp;rfl));intro gb212 hg w29 hbox hb;have BK212:=mk0 (hbox);have GW212:=szw hg HB;have GE212:=GW212;have NB207_212:=nlt hg BK207;have NB212_207:=ngt hg BK207;replace HO_1:=mk0 (Kd.V_below (Kd.V_elderB HO_1.out gb212 (Nat.le_of_eq hg.symm)) hb);replace HO_5:=mk0 (Kd.N_below (Kd.N_elderB HO_5.out gb212 (Nat.le_of_eq hg.symm)) hb);replace HO_24:=mk0 (Kd.V_below (Kd.V_elderB HO_24.out gb212 (Nat.le_of_eq hg.symm)) hb);replace HO_208000:=rbl HO_208000 hb;replace HO_208001:=mk0 (Kd.N_below (Kd.N_elderB HO_208001.out gb212 (Nat.le_of_eq hg.symm)) hb);replace HL211_0:=mk0 (Kd.V_below (Kd.V_elderB (by (with_reducible repeat (first|apply Kd.V_alloc|apply Kd.V_drewN|apply Kd.V_drew));exact HL211_0.out) gb212 (Nat.le_of_eq hg.symm)) hb);replace HL211_1:=mk0 (Kd.V_below (Kd.V_elderB (by (with_reducible repeat (first|apply Kd.V_alloc|apply Kd.V_drewN|apply Kd.V_drew));exact HL211_1.out) gb212 (Nat.le_of_eq hg.symm)) hb);replace BK207:=bkb BK207 hb;replace HR211_0:=mk0 (Kd.C_below (by repeat (first|(with_reducible exact HR211_0.out)|(with_reducible refine Kd.C_alloc ?_ _)|(with_reducible refine Kd.C_drewN ?_ _)|(with_reducible refine Kd.C_drew ?_)|exact HR211_0.out)) hb);replace HR211_1:=mk0 (Kd.C_below (by repeat (first|(with_reducible exact HR211_1.out)|(with_reducible refine Kd.C_alloc ?_ _)|(with_reducible refine Kd.C_drewN ?_ _)|(with_reducible refine Kd.C_drew ?_)|exact HR211_1.out)) hb);replace HB:=bst HB hb;clear hb hbox hg;have hnb30:=NB212_207.out;have hnc30:=NB207_212.out;have hcz31_0:w29.cell? ⟨gb212,0,none⟩=some (.slice none 0 0):=(blk_cell BK212.out 0).trans rfl;have hcz31_1:w29.cell? ⟨gb212,1,none⟩=some (.slice none 0 0):=(blk_cell BK212.out 1).trans rfl;have hfz31_0:=blk_frozen BK212.out 0;have hfz31_1:=blk_frozen BK212.out 1;have hcz32_0:w29.cell? ⟨gb207,0,none⟩=some (u208000):=(blk_cell BK207.out 0).trans rfl;have hcz32_1:w29.cell? ⟨gb207,1,none⟩=some (u208001):=(blk_cell BK207.out 1).trans rfl;have hfz32_0:=blk_frozen BK207.out 0;have hfz32_1:=blk_frozen BK207.out 1;obtain ⟨Ao33,co33,eo33⟩:=Kd.R_slice HO_208000.out;subst eo33)|((with_reducible refine gate_callee (f:=93) rfl ?_);refine goesL_ (some 40) rfl rfl Try.func93 (by kernel_rfl) rfl #[.slice Ao33 x208000_2.length co33,.slice A211_0 ((rd_T60 l1 x26_2).f0).length c211_0] rfl (by (try simp only [List.map_toArray,List.map_cons,List.map_nil]);first|done|rfl|(simp only [List.length_drop,List.length_take];rfl)) ?_;(with_reducible refine (count_plus.calls k2 _ _ x208000_2 _ _ ((rd_T60 l1 x26_2).f0) t213 _ ?side1 ?side2 ?side3 ?side4 A25.out).mono ?_);(case side1=>refine (Kd.R_reads' (e:=3) (base:=w.heap.size) (ok:=fun k_=>(w.heap.size ≤ k_)) (n:=x208000_2.length) (c:=co33) ?_).2.2;exact (by (with_reducible repeat (first|apply Kd.R_alloc|apply Kd.R_drewN|apply Kd.R_drew));exact (Kd.R_mono (Kd.R_far (p:=⟨gb212,1,none⟩) (Kd.R_far (p:=⟨gb212,0,none⟩) (Kd.R_types HO_208000.out BK212.out (by decide)) (fun _ hk=>hk.2) (.slice A211_0 ((rd_T60 l1 x26_2).f0).length c211_0)) (fun _ hk=>hk.2) (.slice A211_1 ((rd_T60 l1 x26_2).f1).length c211_1)) (fun _ h_=>h_.1))));(case side2=>exact (Kd.R_reads' HO_208000.out).2.1);(case side3=>repeat (first|exact ((Kd.V_reads' (by (with_reducible repeat (first|apply Kd.V_alloc|apply Kd.V_drewN|apply Kd.V_drew));exact (Kd.V_mono (Kd.V_far (p:=⟨gb212,1,none⟩) (Kd.V_far (p:=⟨gb212,0,none⟩) (Kd.V_mono HL211_0.out (fun k_ hk=>(⟨hk,hk.2⟩:_∧k_ ≠ gb212))) (fun _ hk=>hk.2) (.slice A211_0 ((rd_T60 l1 x26_2).f0).length c211_0)) (fun _ hk=>hk.2) (.slice A211_1 ((rd_T60 l1 x26_2).f1).length c211_1)) (fun _ h_=>h_.1)))).2.2)|(with_reducible refine Kd.C_alloc ?_ _)|(with_reducible refine Kd.C_drewN ?_ _)|(with_reducible refine Kd.C_drew ?_)));(case side4=>exact HC211_0.out);rintro e w34 ⟨v214,rfl,ho0,hb⟩;refine ⟨_,rfl,?_⟩;have HO215:=mk0 (Kd.R_lower (Kd.R_new' (Kd.R_newM (M:=fun k_=>(w.heap.size ≤ k_)) ho0 (below_size (by repeat (with_reducible first|exact HB.out|refine below_set ?_ GE207.out|refine below_set ?_ GE212.out))) (fun k_ h_=>h_)) (Kd.R_lt (by (with_reducible repeat (first|apply Kd.R_alloc|apply Kd.R_drewN|apply Kd.R_drew));exact (Kd.R_mono (Kd.R_far (p:=⟨gb212,1,none⟩) (Kd.R_far (p:=⟨gb212,0,none⟩) (Kd.R_types HO_208000.out BK212.out (by decide)) (fun _ hk=>hk.2) (.slice A211_0 ((rd_T60 l1 x26_2).f0).length c211_0)) (fun _ hk=>hk.2) (.slice A211_1 ((rd_T60 l1 x26_2).f1).length c211_1)) (fun _ h_=>h_.1))))) (below_size (by repeat (with_reducible first|exact HB.out|refine below_set ?_ GE207.out|refine below_set ?_ GE212.out))));replace HO_1:=mk0 (Kd.V_elder' (by (with_reducible repeat (first|apply Kd.V_alloc|apply Kd.V_drewN|apply Kd.V_drew));exact (Kd.V_mono (Kd.V_far (p:=⟨gb212,1,none⟩) (Kd.V_far (p:=⟨gb212,0,none⟩) (Kd.V_mono HO_1.out (fun k_ hk=>(⟨hk,hk.2⟩:_∧k_ ≠ gb212))) (fun _ hk=>hk.2) (.slice A211_0 ((rd_T60 l1 x26_2).f0).length c211_0)) (fun _ hk=>hk.2) (.slice A211_1 ((rd_T60 l1 x26_2).f1).length c211_1)) (fun _ h_=>h_.1))) (Kd.R_base ho0) hb);replace HO_5:=mk0 (Kd.N_elder' (by (with_reducible repeat (first|apply Kd.N_alloc|apply Kd.N_drewN|apply Kd.N_drew));exact (Kd.N_mono (Kd.N_far (p:=⟨gb212,1,none⟩) (Kd.N_far (p:=⟨gb212,0,none⟩) (Kd.N_mono HO_5.out (fun k_ hk=>(⟨hk,hk.2⟩:_∧k_ ≠ gb212))) (fun _ hk=>hk.2) (.slice A211_0 ((rd_T60 l1 x26_2).f0).length c211_0)) (fun _ hk=>hk.2) (.slice A211_1 ((rd_T60 l1 x26_2).f1).length c211_1)) (fun _ h_=>h_.1))) (Kd.R_base ho0) hb);replace HO_24:=mk0 (Kd.V_elder' (by (with_reducible repeat (first|apply Kd.V_alloc|apply Kd.V_drewN|apply Kd.V_drew));exact (Kd.V_mono (Kd.V_far (p:=⟨gb212,1,none⟩) (Kd.V_far (p:=⟨gb212,0,none⟩) (Kd.V_mono HO_24.out (fun k_ hk=>(⟨hk,hk.2⟩:_∧k_ ≠ gb212))) (fun _ hk=>hk.2) (.slice A211_0 ((rd_T60 l1 x26_2).f0).length c211_0)) (fun _ hk=>hk.2) (.slice A211_1 ((rd_T60 l1 x26_2).f1).length c211_1)) (fun _ h_=>h_.1))) (Kd.R_base ho0) hb);replace HO_208000:=mk0 (Kd.R_elder' (by (with_reducible repeat (first|apply Kd.R_alloc|apply Kd.R_drewN|apply Kd.R_drew));exact (Kd.R_mono (Kd.R_far (p:=⟨gb212,1,none⟩) (Kd.R_far (p:=⟨gb212,0,none⟩) (Kd.R_types HO_208000.out BK212.out (by decide)) (fun _ hk=>hk.2) (.slice A211_0 ((rd_T60 l1 x26_2).f0).length c211_0)) (fun _ hk=>hk.2) (.slice A211_1 ((rd_T60 l1 x26_2).f1).length c211_1)) (fun _ h_=>h_.1))) (Kd.R_base ho0) hb);replace HO_208001:=mk0 (Kd.N_elder' (by (with_reducible repeat (first|apply Kd.N_alloc|apply Kd.N_drewN|apply Kd.N_drew));exact (Kd.N_mono (Kd.N_far (p:=⟨gb212,1,none⟩) (Kd.N_far (p:=⟨gb212,0,none⟩) (Kd.N_mono HO_208001.out (fun k_ hk=>(⟨hk,hk.2⟩:_∧k_ ≠ gb212))) (fun _ hk=>hk.2) (.slice A211_0 ((rd_T60 l1 x26_2).f0).length c211_0)) (fun _ hk=>hk.2) (.slice A211_1 ((rd_T60 l1 x26_2).f1).length c211_1)) (fun _ h_=>h_.1))) (Kd.R_base ho0) hb);replace BK207:=mk0 (blk_below (g:=gb207) (o:=.cells #[.slice Ao33 x208000_2.length co33,u208001] 60 (0,0)) (by (iterate 2 refine blk_far ?_ NB207_212.out _);exact BK207.out) hb);replace HR211_0:=mk0 (Kd.C_below ((Kd.V_reads' (by (with_reducible repeat (first|apply Kd.V_alloc|apply Kd.V_drewN|apply Kd.V_drew));exact (Kd.V_mono (Kd.V_far (p:=⟨gb212,1,none⟩) (Kd.V_far (p:=⟨gb212,0,none⟩) (Kd.V_mono HL211_0.out (fun k_ hk=>(⟨hk,hk.2⟩:_∧k_ ≠ gb212))) (fun _ hk=>hk.2) (.slice A211_0 ((rd_T60 l1 x26_2).f0).length c211_0)) (fun _ hk=>hk.2) (.slice A211_1 ((rd_T60 l1 x26_2).f1).length c211_1)) (fun _ h_=>h_.1)))).2.2) hb);replace HL211_0:=mk0 (Kd.V_elder' (by (with_reducible repeat (first|apply Kd.V_alloc|apply Kd.V_drewN|apply Kd.V_drew));exact (Kd.V_mono (Kd.V_far (p:=⟨gb212,1,none⟩) (Kd.V_far (p:=⟨gb212,0,none⟩) (Kd.V_mono HL211_0.out (fun k_ hk=>(⟨hk,hk.2⟩:_∧k_ ≠ gb212))) (fun _ hk=>hk.2) (.slice A211_0 ((rd_T60 l1 x26_2).f0).length c211_0)) (fun _ hk=>hk.2) (.slice A211_1 ((rd_T60 l1 x26_2).f1).length c211_1)) (fun _ h_=>h_.1))) (Kd.R_base ho0) hb);replace HR211_1:=mk0 (Kd.C_below ((Kd.V_reads' (by (with_reducible repeat (first|apply Kd.V_alloc|apply Kd.V_drewN|apply Kd.V_drew));exact (Kd.V_mono (Kd.V_far (p:=⟨gb212,1,none⟩) (Kd.V_far (p:=⟨gb212,0,none⟩) (Kd.V_mono HL211_1.out (fun k_ hk=>(⟨hk,hk.2⟩:_∧k_ ≠ gb212))) (fun _ hk=>hk.2) (.slice A211_0 ((rd_T60 l1 x26_2).f0).length c211_0)) (fun _ hk=>hk.2) (.slice A211_1 ((rd_T60 l1 x26_2).f1).length c211_1)) (fun _ h_=>h_.1)))).2.2) hb);replace HL211_1:=mk0 (Kd.V_elder' (by (with_reducible repeat (first|apply Kd.V_alloc|apply Kd.V_drewN|apply Kd.V_drew));exact (Kd.V_mono (Kd.V_far (p:=⟨gb212,1,none⟩) (Kd.V_far (p:=⟨gb212,0,none⟩) (Kd.V_mono HL211_1.out (fun k_ hk=>(⟨hk,hk.2⟩:_∧k_ ≠ gb212))) (fun _ hk=>hk.2) (.slice A211_0 ((rd_T60 l1 x26_2).f0).length c211_0)) (fun _ hk=>hk.2) (.slice A211_1 ((rd_T60 l1 x26_2).f1).length c211_1)) (fun _ h_=>h_.1))) (Kd.R_base ho0) hb);replace BK212:=mk0 (blk_below (g:=gb212) (o:=.cells #[.slice A211_0 ((rd_T60 l1 x26_2).f0).length c211_0,.slice A211_1 ((rd_T60 l1 x26_2).f1).length c211_1] 60 (0,0)) (by refine blk_put (cs:=#[.slice A211_0 ((rd_T60 l1 x26_2).f0).length c211_0,.slice none 0 0]) ?_ 1 _ rfl;refine blk_put (cs:=#[.slice none 0 0,.slice none 0 0]) ?_ 0 _ rfl;exact BK212.out) hb);replace HB:=mk0 (below_step (by repeat (with_reducible first|exact HB.out|refine below_set ?_ GE207.out|refine below_set ?_ GE212.out)) hb);(try clear hb);(try clear hk);(try clear ho0);obtain ⟨Ao35,co35,eo35⟩:=Kd.R_slice HO215.out;subst eo35;have hcz36_0:w34.cell? ⟨gb207,0,none⟩=some (.slice Ao33 x208000_2.length co33):=(blk_cell BK207.out 0).trans rfl;have hcz36_1:w34.cell? ⟨gb207,1,none⟩=some (u208001):=(blk_cell BK207.out 1).trans rfl;have hfz36_0:=blk_frozen BK207.out 0;have hfz36_1:=blk_frozen BK207.out 1))
                have n0_:Aside0 (Kd.V k60 60 (w34.setCell ⟨gb207,0,none⟩ (.slice Ao35 t213.length co35)) w.heap.size (fun k_=>(P1_ k_ ∨ w.heap.size ≤ k_)∧some k_ ≠ (u5:Value).ownBlock∧some k_ ≠ (.slice Ao33 x208000_2.length co33:Value).ownBlock∧some k_ ≠ (u208001:Value).ownBlock∧some k_ ≠ (.slice Ao35 t213.length co35:Value).ownBlock∧k_ ≠ gb207∧k_ ≠ gb212) (.slice (some ad211) l1.length c1) l1):=⟨by (with_reducible repeat (first|apply Kd.V_alloc|apply Kd.V_drewN|apply Kd.V_drew));exact Kd.V_mono (Kd.V_far (p:=⟨gb207,0,none⟩) (Kd.V_mono HO_1.out (fun k_ hk=>(⟨hk,hk.1.1.2.2.2.2⟩:_∧k_ ≠ gb207))) (fun _ hk=>hk.2) (.slice Ao35 t213.length co35)) (fun _ hk=>⟨hk.1.1.1.1,⟨hk.1.1.1.2.1,⟨hk.1.1.1.2.2.1,⟨hk.1.1.1.2.2.2.1,⟨hk.1.2,⟨hk.1.1.1.2.2.2.2,hk.1.1.2⟩⟩⟩⟩⟩⟩)⟩
                have n1_:Aside0 (Kd.N k60 60 (w34.setCell ⟨gb207,0,none⟩ (.slice Ao35 t213.length co35)) w.heap.size (fun k_=>(P1_ k_ ∨ w.heap.size ≤ k_)∧some k_ ≠ (.slice Ao33 x208000_2.length co33:Value).ownBlock∧some k_ ≠ (u208001:Value).ownBlock∧some k_ ≠ (.slice Ao35 t213.length co35:Value).ownBlock∧k_ ≠ gb207∧k_ ≠ gb212) u5 x5_1):=⟨by (with_reducible repeat (first|apply Kd.N_alloc|apply Kd.N_drewN|apply Kd.N_drew));exact Kd.N_mono (Kd.N_far (p:=⟨gb207,0,none⟩) (Kd.N_mono HO_5.out (fun k_ hk=>(⟨hk,hk.1.1.2.2.2⟩:_∧k_ ≠ gb207))) (fun _ hk=>hk.2) (.slice Ao35 t213.length co35)) (fun _ hk=>⟨hk.1.1.1.1,⟨hk.1.1.1.2.1,⟨hk.1.1.1.2.2.1,⟨hk.1.2,⟨hk.1.1.1.2.2.2,hk.1.1.2⟩⟩⟩⟩⟩)⟩
                have n2_:Aside0 (Kd.V k60 60 (w34.setCell ⟨gb207,0,none⟩ (.slice Ao35 t213.length co35)) w.heap.size (fun k_=>(P1_ k_ ∨ w.heap.size ≤ k_)∧some k_ ≠ (u5:Value).ownBlock∧some k_ ≠ (.slice Ao33 x208000_2.length co33:Value).ownBlock∧some k_ ≠ (u208001:Value).ownBlock∧some k_ ≠ (.slice Ao35 t213.length co35:Value).ownBlock∧k_ ≠ gb207∧k_ ≠ gb212) (.slice (some ad211) l1.length c1) l1):=⟨by (with_reducible repeat (first|apply Kd.V_alloc|apply Kd.V_drewN|apply Kd.V_drew));exact Kd.V_mono (Kd.V_far (p:=⟨gb207,0,none⟩) (Kd.V_mono HO_24.out (fun k_ hk=>(⟨hk,hk.1.1.2.2.2.2⟩:_∧k_ ≠ gb207))) (fun _ hk=>hk.2) (.slice Ao35 t213.length co35)) (fun _ hk=>⟨hk.1.1.1.1,⟨hk.1.1.1.2.1,⟨hk.1.1.1.2.2.1,⟨hk.1.1.1.2.2.2.1,⟨hk.1.2,⟨hk.1.1.1.2.2.2.2,hk.1.1.2⟩⟩⟩⟩⟩⟩)⟩
                have n3_:Aside0 (Kd.R (Kd.int .i64) 3 (w34.setCell ⟨gb207,0,none⟩ (.slice Ao35 t213.length co35)) w.heap.size (fun k_=>(w.heap.size ≤ k_)∧some k_ ≠ (.slice Ao35 t213.length co35:Value).ownBlock) (.slice Ao33 x208000_2.length co33) x208000_2):=⟨by (with_reducible repeat (first|apply Kd.R_alloc|apply Kd.R_drewN|apply Kd.R_drew));exact Kd.R_mono (Kd.R_far (p:=⟨gb207,0,none⟩) (Kd.R_types HO_208000.out BK207.out (by decide)) (fun _ hk=>hk.2) (.slice Ao35 t213.length co35)) (fun _ hk=>⟨hk.1.1,hk.1.2⟩)⟩
                have n4_:Aside0 (Kd.N (Kd.slice 3 (Kd.int .i64)) 23 (w34.setCell ⟨gb207,0,none⟩ (.slice Ao35 t213.length co35)) w.heap.size (fun k_=>(P1_ k_ ∨ w.heap.size ≤ k_)∧some k_ ≠ (u5:Value).ownBlock∧some k_ ≠ (.slice Ao33 x208000_2.length co33:Value).ownBlock∧some k_ ≠ (.slice Ao35 t213.length co35:Value).ownBlock∧k_ ≠ gb207∧k_ ≠ gb212) u208001 x208001_2):=⟨by (with_reducible repeat (first|apply Kd.N_alloc|apply Kd.N_drewN|apply Kd.N_drew));exact Kd.N_mono (Kd.N_far (p:=⟨gb207,0,none⟩) (Kd.N_mono HO_208001.out (fun k_ hk=>(⟨hk,hk.1.1.2.2.2⟩:_∧k_ ≠ gb207))) (fun _ hk=>hk.2) (.slice Ao35 t213.length co35)) (fun _ hk=>⟨hk.1.1.1.1,⟨hk.1.1.1.2.1,⟨hk.1.1.1.2.2.1,⟨hk.1.2,⟨hk.1.1.1.2.2.2,hk.1.1.2⟩⟩⟩⟩⟩)⟩
                have n5_:Aside0 (Kd.V (Kd.int .i64) 3 (w34.setCell ⟨gb207,0,none⟩ (.slice Ao35 t213.length co35)) w.heap.size (fun k_=>(P1_ k_ ∨ w.heap.size ≤ k_)∧some k_ ≠ (u5:Value).ownBlock∧some k_ ≠ (.slice Ao33 x208000_2.length co33:Value).ownBlock∧some k_ ≠ (u208001:Value).ownBlock∧some k_ ≠ (.slice Ao35 t213.length co35:Value).ownBlock∧k_ ≠ gb207∧k_ ≠ gb212) (.slice A211_0 ((rd_T60 l1 x26_2).f0).length c211_0) ((rd_T60 l1 x26_2).f0)):=⟨by (with_reducible repeat (first|apply Kd.V_alloc|apply Kd.V_drewN|apply Kd.V_drew));exact Kd.V_mono (Kd.V_far (p:=⟨gb207,0,none⟩) (Kd.V_mono HL211_0.out (fun k_ hk=>(⟨hk,hk.1.1.2.2.2.2⟩:_∧k_ ≠ gb207))) (fun _ hk=>hk.2) (.slice Ao35 t213.length co35)) (fun _ hk=>⟨hk.1.1.1.1,⟨hk.1.1.1.2.1,⟨hk.1.1.1.2.2.1,⟨hk.1.1.1.2.2.2.1,⟨hk.1.2,⟨hk.1.1.1.2.2.2.2,hk.1.1.2⟩⟩⟩⟩⟩⟩)⟩
                have n6_:Aside0 (Kd.V (Kd.slice 3 (Kd.int .i64)) 23 (w34.setCell ⟨gb207,0,none⟩ (.slice Ao35 t213.length co35)) w.heap.size (fun k_=>(P1_ k_ ∨ w.heap.size ≤ k_)∧some k_ ≠ (u5:Value).ownBlock∧some k_ ≠ (.slice Ao33 x208000_2.length co33:Value).ownBlock∧some k_ ≠ (u208001:Value).ownBlock∧some k_ ≠ (.slice Ao35 t213.length co35:Value).ownBlock∧k_ ≠ gb207∧k_ ≠ gb212) (.slice A211_1 ((rd_T60 l1 x26_2).f1).length c211_1) ((rd_T60 l1 x26_2).f1)):=⟨by (with_reducible repeat (first|apply Kd.V_alloc|apply Kd.V_drewN|apply Kd.V_drew));exact Kd.V_mono (Kd.V_far (p:=⟨gb207,0,none⟩) (Kd.V_mono HL211_1.out (fun k_ hk=>(⟨hk,hk.1.1.2.2.2.2⟩:_∧k_ ≠ gb207))) (fun _ hk=>hk.2) (.slice Ao35 t213.length co35)) (fun _ hk=>⟨hk.1.1.1.1,⟨hk.1.1.1.2.1,⟨hk.1.1.1.2.2.1,⟨hk.1.1.1.2.2.2.1,⟨hk.1.2,⟨hk.1.1.1.2.2.2.2,hk.1.1.2⟩⟩⟩⟩⟩⟩)⟩
                have n7_:Aside0 (Kd.R (Kd.int .i64) 3 (w34.setCell ⟨gb207,0,none⟩ (.slice Ao35 t213.length co35)) w.heap.size (fun k_=>(w.heap.size ≤ k_)∧some k_ ≠ (.slice Ao33 x208000_2.length co33:Value).ownBlock) (.slice Ao35 t213.length co35) t213):=⟨by (with_reducible repeat (first|apply Kd.R_alloc|apply Kd.R_drewN|apply Kd.R_drew));exact Kd.R_mono (Kd.R_far (p:=⟨gb207,0,none⟩) (Kd.R_types HO215.out BK207.out (by decide)) (fun _ hk=>hk.2) (.slice Ao35 t213.length co35)) (fun _ hk=>⟨hk.1.1.1,hk.1.2⟩)⟩
                have n8_:Aside0 ((w34.setCell ⟨gb207,0,none⟩ (.slice Ao35 t213.length co35)).heap[gb207]?=some (.cells #[.slice Ao35 t213.length co35,u208001] 60 (0,0))):=⟨by refine blk_put (cs:=#[.slice Ao33 x208000_2.length co33,u208001]) ?_ 0 _ rfl;exact BK207.out⟩
                have n9_:Aside0 ((w34.setCell ⟨gb207,0,none⟩ (.slice Ao35 t213.length co35)).heap[gb212]?=some (.cells #[.slice A211_0 ((rd_T60 l1 x26_2).f0).length c211_0,.slice A211_1 ((rd_T60 l1 x26_2).f1).length c211_1] 60 (0,0))):=⟨by refine blk_far ?_ NB212_207.out _;exact BK212.out⟩
                have n10_:Aside0 (Below w.heap.size w (w34.setCell ⟨gb207,0,none⟩ (.slice Ao35 t213.length co35))):=⟨by repeat (first|(with_reducible first|exact HB.out|apply below_alloc|apply pw_below_drewN|apply below_drew1|refine below_set ?_ GE207.out|refine below_set ?_ GE212.out)|exact HB.out)⟩
                (try clear HO_1);(try clear HO_5);(try clear HO_24);(try clear HO_208000);(try clear HO_208001);(try clear HL211_0);(try clear HL211_1);(try clear HO215);(try clear BK207);(try clear BK212);(try clear HB);generalize (w34.setCell ⟨gb207,0,none⟩ (.slice Ao35 t213.length co35))=w37 at n0_ n1_ n2_ n3_ n4_ n5_ n6_ n7_ n8_ n9_ n10_ ⊢;have HO_1:=n0_;have HO_5:=n1_;have HO_24:=n2_;have HO_208000:=n3_;have HO_208001:=n4_;have HL211_0:=n5_;have HL211_1:=n6_;have HO215:=n7_;have BK207:=n8_;have BK212:=n9_;have HB:=n10_;clear n0_ n1_ n2_ n3_ n4_ n5_ n6_ n7_ n8_ n9_ n10_;replace HO_1:=mk0 (Kd.V_drew HO_1.out);replace HO_5:=mk0 (Kd.N_drew HO_5.out);replace HO_24:=mk0 (Kd.V_drew HO_24.out);replace HO_208000:=rdr HO_208000;replace HO_208001:=mk0 (Kd.N_drew HO_208001.out);replace HL211_0:=mk0 (Kd.V_drew HL211_0.out);replace HL211_1:=mk0 (Kd.V_drew HL211_1.out);replace HO215:=rdr HO215;replace BK207:=bdr BK207;replace BK212:=bdr BK212;replace HB:=hdr HB;refine start_ (n:=12) (S:=fun w'=>w'.cell? ⟨gb207,0,none⟩=some (.slice Ao35 t213.length co35)∧w'.cell? ⟨gb207,1,none⟩=some (u208001)∧w'.cell? ⟨gb212,0,none⟩=some (.slice A211_0 ((rd_T60 l1 x26_2).f0).length c211_0)∧w'.cell? ⟨gb212,1,none⟩=some (.slice A211_1 ((rd_T60 l1 x26_2).f1).length c211_1)) (ds:=[11]) #[false,false,false,false,false,false,false,false,false,false,false,false] (by kernel_rfl) rfl rfl ⟨(blk_cell BK207.out 0).trans rfl,(blk_cell BK207.out 1).trans rfl,(blk_cell BK212.out 0).trans rfl,(blk_cell BK212.out 1).trans rfl⟩ (fun hHeld=>?_);refine with_tabW count_star.tab11 count_star.bits11 (fun HT_ HW_=>?_);generalize w37.drew=w38 at HO_1 HO_5 HO_24 HO_208000 HO_208001 HL211_0 HL211_1 HO215 BK207 BK212 HB hHeld ⊢;refine pure_ (i:=0) (N:=some 42) (v:=?_) (a':=?_) #[true,false,false,false,false,false,false,false,false,false,false,false] rfl rfl (any_of HT_.out (by kernel_rfl)) (fun _ _ _ h=>h) (Or.inl ⟨by rfl,?_⟩) ?_ ?_;rotate_left
                ·
                 intro w';go_simp;with_reducible rfl
                rotate_left
                ·
                 simp only [Act.put,List.setIfInBounds_toArray,List.set_cons_zero,List.set_cons_succ,i64_w,i32_w];rfl
                refine pure_ (i:=2) (N:=some 44) (v:=?_) (a':=?_) #[true,false,true,false,false,false,false,false,false,false,false,false] rfl rfl (any_of HT_.out (by kernel_rfl)) (fun _ _ _ h=>h) (Or.inl ⟨by rfl,?_⟩) ?_ ?_;rotate_left
                ·
                 intro w';go_simp;with_reducible rfl
                rotate_left
                ·
                 simp only [Act.put,List.setIfInBounds_toArray,List.set_cons_zero,List.set_cons_succ,i64_w,i32_w];rfl
                refine pure_ (i:=5) (N:=some 47) (v:=?_) (a':=?_) #[true,false,true,false,false,true,false,false,false,false,false,false] rfl rfl (any_of HT_.out (by kernel_rfl)) (fun _ _ _ h=>h) (Or.inl ⟨by rfl,?_⟩) ?_ ?_;rotate_left
                ·
                 intro w';go_simp;with_reducible rfl
                rotate_left
                ·
                 simp only [Act.put,List.setIfInBounds_toArray,List.set_cons_zero,List.set_cons_succ,i64_w,i32_w];rfl
                refine take_ (i:=1) (N:=some 43) (v:=?_) (a':=?_) #[true,true,true,false,false,true,false,false,false,false,false,false] rfl rfl (take_ofW HT_.out HW_.out (by kernel_rfl)) (fun _ _ _ h=>h) (Or.inl ⟨by rfl,?_⟩) hHeld ?_ ?_;rotate_left
                ·
                 rintro w' ⟨s0,s1,s2,s3⟩;go_simp;with_reducible rfl
                rotate_left
                ·
                 simp only [Act.put,List.setIfInBounds_toArray,List.set_cons_zero,List.set_cons_succ,i64_w,i32_w];rfl
                refine take_ (i:=3) (N:=some 45) (v:=?_) (a':=?_) #[true,true,true,true,false,true,false,false,false,false,false,false] rfl rfl (take_ofW HT_.out HW_.out (by kernel_rfl)) (fun _ _ _ h=>h) (Or.inl ⟨by rfl,?_⟩) hHeld ?_ ?_;rotate_left
                ·
                 rintro w' ⟨s0,s1,s2,s3⟩;go_simp;with_reducible rfl
                rotate_left
                ·
                 simp only [Act.put,List.setIfInBounds_toArray,List.set_cons_zero,List.set_cons_succ,i64_w,i32_w];rfl
                refine take_ (i:=6) (N:=some 48) (v:=?_) (a':=?_) #[true,true,true,true,false,true,true,false,false,false,false,false] rfl rfl (take_ofW HT_.out HW_.out (by kernel_rfl)) (fun _ _ _ h=>h) (Or.inl ⟨by rfl,?_⟩) hHeld ?_ ?_;rotate_left
                ·
                 rintro w' ⟨s0,s1,s2,s3⟩;go_simp;with_reducible rfl
                rotate_left
                ·
                 simp only [Act.put,List.setIfInBounds_toArray,List.set_cons_zero,List.set_cons_succ,i64_w,i32_w];rfl
                refine one_ (i:=4) (N:=some 46) #[true,true,true,true,true,true,true,false,false,false,false,false] rfl rfl (one_of HT_.out (by kernel_rfl)) (by decide) (fun K hK=>?_);refine Kd.N_lit_step (Kd.slice 3 (Kd.int .i64)) _ 23 ?hg (N':=46) ?hd (xs:=([(rd_T60 l1 x26_2).f0]:List (List Int))) (inner:=[.slice A211_0 ((rd_T60 l1 x26_2).f0).length c211_0]) (ok:=(fun k_=>(P1_ k_ ∨ w.heap.size ≤ k_)∧some k_ ≠ (u5:Value).ownBlock∧some k_ ≠ (.slice Ao33 x208000_2.length co33:Value).ownBlock∧some k_ ≠ (u208001:Value).ownBlock∧some k_ ≠ (.slice Ao35 t213.length co35:Value).ownBlock∧k_ ≠ gb207∧k_ ≠ gb212)) (okp:=(fun k_=>(P1_ k_ ∨ w.heap.size ≤ k_)∧some k_ ≠ (u5:Value).ownBlock∧some k_ ≠ (.slice Ao33 x208000_2.length co33:Value).ownBlock∧some k_ ≠ (u208001:Value).ownBlock∧some k_ ≠ (.slice Ao35 t213.length co35:Value).ownBlock∧k_ ≠ gb207∧k_ ≠ gb212)) ?hr ?hp (fun _ hk=>hk) ((show ∀ k_,w38.heap.size ≤ k_ → (fun k_=>(P1_ k_ ∨ w.heap.size ≤ k_)∧some k_ ≠ (u5:Value).ownBlock∧some k_ ≠ (.slice Ao33 x208000_2.length co33:Value).ownBlock∧some k_ ≠ (u208001:Value).ownBlock∧some k_ ≠ (.slice Ao35 t213.length co35:Value).ownBlock∧k_ ≠ gb207∧k_ ≠ gb212) k_ from fun k_ hk=>⟨(.inr (Nat.le_trans (below_size HB.out) hk)),Kd.fresh' (Kd.N_lt HO_5.out) k_ hk,Kd.fresh' (Kd.R_lt HO_208000.out) k_ hk,Kd.fresh' (Kd.N_lt HO_208001.out) k_ hk,Kd.fresh' (Kd.R_lt HO215.out) k_ hk,Kd.freshB (g:=gb207) (o:=.cells #[.slice Ao35 t213.length co35,u208001] 60 (0,0)) BK207.out k_ hk,Kd.freshB (g:=gb212) (o:=.cells #[.slice A211_0 ((rd_T60 l1 x26_2).f0).length c211_0,.slice A211_1 ((rd_T60 l1 x26_2).f1).length c211_1] 60 (0,0)) BK212.out k_ hk⟩) _ (Nat.le_refl _)) (Below.refl _ _) (Nat.le_refl _) (by simp) ?_;(case hd=>rfl);(case hg=>rfl);(case hr=>first|(go_simp;done)|(go_simp;rfl));(case hp=>exact (Reps.one (show Kd.FK (Kd.slice 3 (Kd.int .i64)) _ _ ((rd_T60 l1 x26_2).f0) [.slice A211_0 ((rd_T60 l1 x26_2).f0).length c211_0] from (Kd.FK_slice_mk (Kd.V_reads' (Kd.V_mono (e:=0) (base:=0) (ok':=(fun k_=>(P1_ k_ ∨ w.heap.size ≤ k_)∧some k_ ≠ (u5:Value).ownBlock∧some k_ ≠ (.slice Ao33 x208000_2.length co33:Value).ownBlock∧some k_ ≠ (u208001:Value).ownBlock∧some k_ ≠ (.slice Ao35 t213.length co35:Value).ownBlock∧k_ ≠ gb207∧k_ ≠ gb212)) (HL211_0.out) (fun k_ hk=>⟨hk.1,⟨hk.2.1,⟨hk.2.2.1,⟨hk.2.2.2.1,⟨hk.2.2.2.2.1,⟨hk.2.2.2.2.2.1,hk.2.2.2.2.2.2⟩⟩⟩⟩⟩⟩))).2.1 (Kd.V_F (Kd.V_mono (e:=0) (base:=0) (ok':=(fun k_=>(P1_ k_ ∨ w.heap.size ≤ k_)∧some k_ ≠ (u5:Value).ownBlock∧some k_ ≠ (.slice Ao33 x208000_2.length co33:Value).ownBlock∧some k_ ≠ (u208001:Value).ownBlock∧some k_ ≠ (.slice Ao35 t213.length co35:Value).ownBlock∧k_ ≠ gb207∧k_ ≠ gb212)) (HL211_0.out) (fun k_ hk=>⟨hk.1,⟨hk.2.1,⟨hk.2.2.1,⟨hk.2.2.2.1,⟨hk.2.2.2.2.1,⟨hk.2.2.2.2.2.1,hk.2.2.2.2.2.2⟩⟩⟩⟩⟩⟩))))) (Reps.none _ _)));intro v217 w39 ho40 hb hg_ hnew_;clear hg_ hnew_;(first|rw [← Ny216.out] at ho40|(simp only [Int.reduceToNat] at ho40;rw [← Ny216.out] at ho40));have HO218:=mk0 (Kd.N_lower ho40 (below_size HB.out));replace HO_1:=mk0 (Kd.V_elder' HO_1.out (by first|exact Kd.N_base ho40|exact Kd.S_base ho40|exact Kd.R_base ho40) hb);replace HO_5:=mk0 (Kd.N_elder' HO_5.out (by first|exact Kd.N_base ho40|exact Kd.S_base ho40|exact Kd.R_base ho40) hb);replace HO_24:=mk0 (Kd.V_elder' HO_24.out (by first|exact Kd.N_base ho40|exact Kd.S_base ho40|exact Kd.R_base ho40) hb);replace HO_208000:=rbl HO_208000 hb;replace HO_208001:=mk0 (Kd.N_elder' HO_208001.out (by first|exact Kd.N_base ho40|exact Kd.S_base ho40|exact Kd.R_base ho40) hb);replace HL211_0:=mk0 (Kd.V_elder' (by (with_reducible repeat (first|apply Kd.V_alloc|apply Kd.V_drewN|apply Kd.V_drew));exact HL211_0.out) (by first|exact Kd.N_base ho40|exact Kd.S_base ho40|exact Kd.R_base ho40) hb);replace HL211_1:=mk0 (Kd.V_elder' (by (with_reducible repeat (first|apply Kd.V_alloc|apply Kd.V_drewN|apply Kd.V_drew));exact HL211_1.out) (by first|exact Kd.N_base ho40|exact Kd.S_base ho40|exact Kd.R_base ho40) hb);replace HO215:=rbl HO215 hb;replace BK207:=bkb BK207 hb;replace BK212:=bkb BK212 hb;replace HB:=bst HB hb;clear hb ho40
                refine hK.out _ _ ⟨(blk_cell BK207.out 0).trans rfl,(blk_cell BK207.out 1).trans rfl,(blk_cell BK212.out 0).trans rfl,(blk_cell BK212.out 1).trans rfl⟩ (fun hHeld=>?_);clear hK K;refine norm_ (a':=?_) ?_ ?_;rotate_left
                ·
                 show Act.put _ (some 46) _=_;simp only [Act.put,List.setIfInBounds_toArray,List.set_cons_zero,List.set_cons_succ,i64_w,i32_w];rfl
                refine one_ (i:=7) (N:=some 49) #[true,true,true,true,true,true,true,true,false,false,false,false] rfl rfl (one_of HT_.out (by kernel_rfl)) (by decide) (fun K hK=>?_);refine Kd.N_append_rows_step (Kd.slice 3 (Kd.int .i64)) (w0:=w) w.heap.size (by rfl) (.tmp 46) (.tmp 48) 58 23 (.slice none 0 0) 24 rfl Try.underlying58 info23 rfl (by decide) (by omega) v217 y216 ((rd_T60 l1 x26_2).f1) _ _ _ (fun k_=>(P1_ k_ ∨ w.heap.size ≤ k_)∧some k_ ≠ (u5:Value).ownBlock∧some k_ ≠ (.slice Ao33 x208000_2.length co33:Value).ownBlock∧some k_ ≠ (u208001:Value).ownBlock∧some k_ ≠ (.slice Ao35 t213.length co35:Value).ownBlock∧k_ ≠ gb207∧k_ ≠ gb212) (fun k_=>((fun k_=>(P1_ k_ ∨ w.heap.size ≤ k_)∧some k_ ≠ (u5:Value).ownBlock∧some k_ ≠ (.slice Ao33 x208000_2.length co33:Value).ownBlock∧some k_ ≠ (u208001:Value).ownBlock∧some k_ ≠ (.slice Ao35 t213.length co35:Value).ownBlock∧k_ ≠ gb207∧k_ ≠ gb212)) k_∧some k_ ≠ (v217:Value).ownBlock) rfl rfl ?aO ?aR (fun _ hk=>hk) ?aF ?aB ?aS ?aL ?_;(case aR=>exact (by skip;exact Kd.V_F (Kd.V_mono (ok':=(fun k_=>((fun k_=>(P1_ k_ ∨ w.heap.size ≤ k_)∧some k_ ≠ (u5:Value).ownBlock∧some k_ ≠ (.slice Ao33 x208000_2.length co33:Value).ownBlock∧some k_ ≠ (u208001:Value).ownBlock∧some k_ ≠ (.slice Ao35 t213.length co35:Value).ownBlock∧k_ ≠ gb207∧k_ ≠ gb212)) k_∧some k_ ≠ (v217:Value).ownBlock)) (HL211_1.out) (fun k_ hk=>⟨⟨hk.1.1,⟨hk.1.2.1,⟨hk.1.2.2.1,⟨hk.1.2.2.2.1,⟨hk.1.2.2.2.2.1,⟨hk.1.2.2.2.2.2.1,hk.1.2.2.2.2.2.2⟩⟩⟩⟩⟩⟩,hk.2⟩))));(case aB=>exact HB.out);(case aF=>exact (fun k_ hk=>⟨(.inr (Nat.le_trans (below_size HB.out) hk)),Kd.fresh' (Kd.N_lt HO_5.out) k_ hk,Kd.fresh' (Kd.R_lt HO_208000.out) k_ hk,Kd.fresh' (Kd.N_lt HO_208001.out) k_ hk,Kd.fresh' (Kd.R_lt HO215.out) k_ hk,Kd.freshB (g:=gb207) (o:=.cells #[.slice Ao35 t213.length co35,u208001] 60 (0,0)) BK207.out k_ hk,Kd.freshB (g:=gb212) (o:=.cells #[.slice A211_0 ((rd_T60 l1 x26_2).f0).length c211_0,.slice A211_1 ((rd_T60 l1 x26_2).f1).length c211_1] 60 (0,0)) BK212.out k_ hk⟩));(case aO=>exact HO218.out);(case aS=>exact (below_size HB.out));(case aL=>have:=LMc26.out;omega);intro v220 w41 ho hb hg hat;rw [← Ny219.out] at ho;have HO221:=mk0 (ho);replace HO_1:=mk0 (Kd.V_afterv (ok:=(fun k_=>(P1_ k_ ∨ w.heap.size ≤ k_)∧some k_ ≠ (u5:Value).ownBlock∧some k_ ≠ (.slice Ao33 x208000_2.length co33:Value).ownBlock∧some k_ ≠ (u208001:Value).ownBlock∧some k_ ≠ (.slice Ao35 t213.length co35:Value).ownBlock∧k_ ≠ gb207∧k_ ≠ gb212)) HO_1.out hg hat);replace HO_5:=mk0 (Kd.N_afterv (ok:=(fun k_=>(P1_ k_ ∨ w.heap.size ≤ k_)∧some k_ ≠ (.slice Ao33 x208000_2.length co33:Value).ownBlock∧some k_ ≠ (u208001:Value).ownBlock∧some k_ ≠ (.slice Ao35 t213.length co35:Value).ownBlock∧k_ ≠ gb207∧k_ ≠ gb212)) HO_5.out hg hat);replace HO_24:=mk0 (Kd.V_afterv (ok:=(fun k_=>(P1_ k_ ∨ w.heap.size ≤ k_)∧some k_ ≠ (u5:Value).ownBlock∧some k_ ≠ (.slice Ao33 x208000_2.length co33:Value).ownBlock∧some k_ ≠ (u208001:Value).ownBlock∧some k_ ≠ (.slice Ao35 t213.length co35:Value).ownBlock∧k_ ≠ gb207∧k_ ≠ gb212)) HO_24.out hg hat);replace HO_208000:=mk0 (Kd.R_over' HO_208000.out (Kd.N_typed HO218.out) (by decide) hg);replace HO_208001:=mk0 (Kd.N_afterv (ok:=(fun k_=>(P1_ k_ ∨ w.heap.size ≤ k_)∧some k_ ≠ (u5:Value).ownBlock∧some k_ ≠ (.slice Ao33 x208000_2.length co33:Value).ownBlock∧some k_ ≠ (.slice Ao35 t213.length co35:Value).ownBlock∧k_ ≠ gb207∧k_ ≠ gb212)) HO_208001.out hg hat);replace BK207:=mk0 (blk_grown (g:=gb207) (o:=.cells #[.slice Ao35 t213.length co35,u208001] 60 (0,0)) BK207.out hg (Kd.N_ne HO218.out BK207.out (by decide)));replace HL211_0:=mk0 (Kd.V_afterv (ok:=(fun k_=>(P1_ k_ ∨ w.heap.size ≤ k_)∧some k_ ≠ (u5:Value).ownBlock∧some k_ ≠ (.slice Ao33 x208000_2.length co33:Value).ownBlock∧some k_ ≠ (u208001:Value).ownBlock∧some k_ ≠ (.slice Ao35 t213.length co35:Value).ownBlock∧k_ ≠ gb207∧k_ ≠ gb212)) (by (with_reducible repeat (first|apply Kd.V_alloc|apply Kd.V_drewN|apply Kd.V_drew));exact HL211_0.out) hg hat)
                replace HL211_1:=mk0 (Kd.V_afterv (ok:=(fun k_=>(P1_ k_ ∨ w.heap.size ≤ k_)∧some k_ ≠ (u5:Value).ownBlock∧some k_ ≠ (.slice Ao33 x208000_2.length co33:Value).ownBlock∧some k_ ≠ (u208001:Value).ownBlock∧some k_ ≠ (.slice Ao35 t213.length co35:Value).ownBlock∧k_ ≠ gb207∧k_ ≠ gb212)) (by (with_reducible repeat (first|apply Kd.V_alloc|apply Kd.V_drewN|apply Kd.V_drew));exact HL211_1.out) hg hat);replace BK212:=mk0 (blk_grown (g:=gb212) (o:=.cells #[.slice A211_0 ((rd_T60 l1 x26_2).f0).length c211_0,.slice A211_1 ((rd_T60 l1 x26_2).f1).length c211_1] 60 (0,0)) BK212.out hg (Kd.N_ne HO218.out BK212.out (by decide)));replace HO215:=mk0 (Kd.R_over' HO215.out (Kd.N_typed HO218.out) (by decide) hg);replace HB:=mk0 (hb);clear HO218;clear ho hb hg hat;obtain ⟨Ao42,co42,eo42⟩:=Kd.N_slice HO221.out;(first|subst eo42|(injection eo42 with f1_ f2_ f3_;have f4_:=f1_.symm;have f5_:=f3_.symm;clear f1_ f2_ f3_;subst f4_;subst f5_));refine hK.out _ _ ⟨(blk_cell BK207.out 0).trans rfl,(blk_cell BK207.out 1).trans rfl,(blk_cell BK212.out 0).trans rfl,(blk_cell BK212.out 1).trans rfl⟩ (fun hHeld=>?_);clear hK K;refine norm_ (a':=?_) ?_ ?_;rotate_left
                ·
                 show Act.put _ (some 49) _=_;simp only [Act.put,List.setIfInBounds_toArray,List.set_cons_zero,List.set_cons_succ,i64_w,i32_w];rfl
                refine one_ (i:=8) (N:=some 50) #[true,true,true,true,true,true,true,true,true,false,false,false] rfl rfl (one_of HT_.out (by kernel_rfl)) (by decide) (fun K hK=>?_);refine goes_ Try.func94 (by kernel_rfl) rfl #[.slice Ao42 y219.length co42] (by rfl) rfl rfl (by (try simp only [List.map_toArray,List.map_cons,List.map_nil]);first|done|rfl|(simp only [List.length_drop,List.length_take];rfl)) ?_;with_reducible refine (count_copies.calls k2 _ _ y219 t222 _ ?side1 ?side2 A27.out).mono ?_
                (case side1=>repeat (first|exact (Kd.N_reads' HO221.out).2.2|(with_reducible refine Kd.C_alloc ?_ _)|(with_reducible refine Kd.C_drewN ?_ _)|(with_reducible refine Kd.C_drew ?_)));(case side2=>exact (Kd.N_reads' HO221.out).2.1);rintro e w43 ⟨v223,rfl,ho0,hb⟩;refine ⟨_,rfl,?_⟩;have HO224:=mk0 (Kd.N_lower (Kd.N_mono (ok':=fun k_=>(P1_ k_ ∨ w.heap.size ≤ k_)∧some k_ ≠ (u5:Value).ownBlock∧some k_ ≠ (.slice Ao33 x208000_2.length co33:Value).ownBlock∧some k_ ≠ (u208001:Value).ownBlock∧some k_ ≠ (.slice Ao35 t213.length co35:Value).ownBlock∧some k_ ≠ (.slice Ao42 y219.length co42:Value).ownBlock∧k_ ≠ gb207∧k_ ≠ gb212) (Kd.S_N (Kd.S_bound ho0)) (fun k_ hk_=>⟨(.inr (Nat.le_trans (below_size HB.out) hk_.2.1)),(Kd.fresh' (Kd.N_lt HO_5.out) k_ hk_.2.1),(Kd.fresh' (Kd.R_lt HO_208000.out) k_ hk_.2.1),(Kd.fresh' (Kd.N_lt HO_208001.out) k_ hk_.2.1),(Kd.fresh' (Kd.R_lt HO215.out) k_ hk_.2.1),(Kd.fresh' (Kd.N_lt HO221.out) k_ hk_.2.1),(Kd.freshB (g:=gb207) (o:=.cells #[.slice Ao35 t213.length co35,u208001] 60 (0,0)) BK207.out k_ hk_.2.1),(Kd.freshB (g:=gb212) (o:=.cells #[.slice A211_0 ((rd_T60 l1 x26_2).f0).length c211_0,.slice A211_1 ((rd_T60 l1 x26_2).f1).length c211_1] 60 (0,0)) BK212.out k_ hk_.2.1)⟩)) (below_size HB.out));replace HO_1:=mk0 (Kd.V_elder' HO_1.out (by first|exact Kd.N_base ho0|exact Kd.S_base ho0|exact Kd.R_base ho0) hb);replace HO_5:=mk0 (Kd.N_elder' HO_5.out (by first|exact Kd.N_base ho0|exact Kd.S_base ho0|exact Kd.R_base ho0) hb);replace HO_24:=mk0 (Kd.V_elder' HO_24.out (by first|exact Kd.N_base ho0|exact Kd.S_base ho0|exact Kd.R_base ho0) hb);replace HO_208000:=rbl HO_208000 hb;replace HO_208001:=mk0 (Kd.N_elder' HO_208001.out (by first|exact Kd.N_base ho0|exact Kd.S_base ho0|exact Kd.R_base ho0) hb);replace HL211_0:=mk0 (Kd.V_elder' (by (with_reducible repeat (first|apply Kd.V_alloc|apply Kd.V_drewN|apply Kd.V_drew));exact HL211_0.out) (by first|exact Kd.N_base ho0|exact Kd.S_base ho0|exact Kd.R_base ho0) hb);replace HL211_1:=mk0 (Kd.V_elder' (by (with_reducible repeat (first|apply Kd.V_alloc|apply Kd.V_drewN|apply Kd.V_drew));exact HL211_1.out) (by first|exact Kd.N_base ho0|exact Kd.S_base ho0|exact Kd.R_base ho0) hb);replace HO215:=rbl HO215 hb;replace HO221:=mk0 (Kd.N_elder' HO221.out (by first|exact Kd.N_base ho0|exact Kd.S_base ho0|exact Kd.R_base ho0) hb);replace BK207:=bkb BK207 hb;replace BK212:=bkb BK212 hb;replace HB:=bst HB hb;(try clear hb);(try clear ho0);obtain ⟨Ao45,co45,eo45⟩:=Kd.N_slice HO224.out;(first|subst eo45|(injection eo45 with f1_ f2_ f3_;have f4_:=f1_.symm;have f5_:=f3_.symm;clear f1_ f2_ f3_;subst f4_;subst f5_));refine hK.out _ _ ⟨(blk_cell BK207.out 0).trans rfl,(blk_cell BK207.out 1).trans rfl,(blk_cell BK212.out 0).trans rfl,(blk_cell BK212.out 1).trans rfl⟩ (fun hHeld=>?_);clear hK K;refine norm_ (a':=?_) ?_ ?_;rotate_left
                ·
                 show Act.put _ (some 50) _=_;simp only [Act.put,List.setIfInBounds_toArray,List.set_cons_zero,List.set_cons_succ,i64_w,i32_w];rfl
                refine one_ (i:=9) (N:=some 51) #[true,true,true,true,true,true,true,true,true,true,false,false] rfl rfl (one_of HT_.out (by kernel_rfl)) (by decide) (fun K hK=>?_);refine Kd.N_append_rows_step (Kd.slice 3 (Kd.int .i64)) (w0:=w) w.heap.size (by rfl) (.tmp 43) (.tmp 50) 58 23 (.slice none 0 0) 24 rfl Try.underlying58 info23 rfl (by decide) (by omega) u208001 x208001_2 t222 _ _ _ (fun k_=>(P1_ k_ ∨ w.heap.size ≤ k_)∧some k_ ≠ (u5:Value).ownBlock∧some k_ ≠ (.slice Ao33 x208000_2.length co33:Value).ownBlock∧some k_ ≠ (.slice Ao35 t213.length co35:Value).ownBlock∧some k_ ≠ (.slice Ao42 y219.length co42:Value).ownBlock∧k_ ≠ gb207∧k_ ≠ gb212) (fun k_=>((fun k_=>(P1_ k_ ∨ w.heap.size ≤ k_)∧some k_ ≠ (u5:Value).ownBlock∧some k_ ≠ (.slice Ao33 x208000_2.length co33:Value).ownBlock∧some k_ ≠ (.slice Ao35 t213.length co35:Value).ownBlock∧some k_ ≠ (.slice Ao42 y219.length co42:Value).ownBlock∧k_ ≠ gb207∧k_ ≠ gb212)) k_∧some k_ ≠ (u208001:Value).ownBlock) rfl rfl ?aO ?aR (fun _ hk=>hk) ?aF ?aB ?aS ?aL ?_;(case aR=>exact (by skip;exact Kd.N_F (Kd.N_mono (ok':=(fun k_=>((fun k_=>(P1_ k_ ∨ w.heap.size ≤ k_)∧some k_ ≠ (u5:Value).ownBlock∧some k_ ≠ (.slice Ao33 x208000_2.length co33:Value).ownBlock∧some k_ ≠ (.slice Ao35 t213.length co35:Value).ownBlock∧some k_ ≠ (.slice Ao42 y219.length co42:Value).ownBlock∧k_ ≠ gb207∧k_ ≠ gb212)) k_∧some k_ ≠ (u208001:Value).ownBlock)) (HO224.out) (fun k_ hk=>⟨⟨hk.1,⟨hk.2.1,⟨hk.2.2.1,⟨hk.2.2.2.2.1,⟨hk.2.2.2.2.2.1,⟨hk.2.2.2.2.2.2.1,hk.2.2.2.2.2.2.2⟩⟩⟩⟩⟩⟩,hk.2.2.2.1⟩))));(case aB=>exact HB.out);(case aF=>exact (fun k_ hk=>⟨(.inr (Nat.le_trans (below_size HB.out) hk)),Kd.fresh' (Kd.N_lt HO_5.out) k_ hk,Kd.fresh' (Kd.R_lt HO_208000.out) k_ hk,Kd.fresh' (Kd.R_lt HO215.out) k_ hk,Kd.fresh' (Kd.N_lt HO221.out) k_ hk,Kd.freshB (g:=gb207) (o:=.cells #[.slice Ao35 t213.length co35,u208001] 60 (0,0)) BK207.out k_ hk,Kd.freshB (g:=gb212) (o:=.cells #[.slice A211_0 ((rd_T60 l1 x26_2).f0).length c211_0,.slice A211_1 ((rd_T60 l1 x26_2).f1).length c211_1] 60 (0,0)) BK212.out k_ hk⟩));(case aO=>exact (by (with_reducible repeat (first|apply Kd.N_alloc|apply Kd.N_drewN|apply Kd.N_drew));exact Kd.N_mono HO_208001.out (fun _ hk=>⟨hk.1.1.1,⟨hk.1.1.2.1,⟨hk.1.1.2.2.1,⟨hk.1.1.2.2.2.1,⟨hk.1.2,⟨hk.1.1.2.2.2.2.1,hk.1.1.2.2.2.2.2⟩⟩⟩⟩⟩⟩)));(case aS=>exact (below_size HB.out));(case aL=>have:=LMc28.out;omega);intro v226 w44 ho hb hg hat;rw [← Ny225.out] at ho;have HO227:=mk0 (ho);replace HO_1:=mk0 (Kd.V_afterv (ok:=(fun k_=>(P1_ k_ ∨ w.heap.size ≤ k_)∧some k_ ≠ (u5:Value).ownBlock∧some k_ ≠ (.slice Ao33 x208000_2.length co33:Value).ownBlock∧some k_ ≠ (.slice Ao35 t213.length co35:Value).ownBlock∧some k_ ≠ (.slice Ao42 y219.length co42:Value).ownBlock∧some k_ ≠ (.slice Ao45 t222.length co45:Value).ownBlock∧k_ ≠ gb207∧k_ ≠ gb212)) (by (with_reducible repeat (first|apply Kd.V_alloc|apply Kd.V_drewN|apply Kd.V_drew));exact Kd.V_mono HO_1.out (fun _ hk=>⟨⟨hk.1.1.1,⟨hk.1.1.2.1,⟨hk.1.1.2.2.1,⟨hk.1.1.2.2.2.2.1,⟨hk.1.2,⟨hk.2,⟨hk.1.1.2.2.2.2.2.1,hk.1.1.2.2.2.2.2.2⟩⟩⟩⟩⟩⟩⟩,hk.1.1.2.2.2.1⟩)) hg hat);replace HO_5:=mk0 (Kd.N_afterv (ok:=(fun k_=>(P1_ k_ ∨ w.heap.size ≤ k_)∧some k_ ≠ (.slice Ao33 x208000_2.length co33:Value).ownBlock∧some k_ ≠ (.slice Ao35 t213.length co35:Value).ownBlock∧some k_ ≠ (.slice Ao42 y219.length co42:Value).ownBlock∧some k_ ≠ (.slice Ao45 t222.length co45:Value).ownBlock∧k_ ≠ gb207∧k_ ≠ gb212)) (by (with_reducible repeat (first|apply Kd.N_alloc|apply Kd.N_drewN|apply Kd.N_drew));exact Kd.N_mono HO_5.out (fun _ hk=>⟨⟨hk.1.1.1,⟨hk.1.1.2.1,⟨hk.1.1.2.2.2.1,⟨hk.1.2,⟨hk.2,⟨hk.1.1.2.2.2.2.1,hk.1.1.2.2.2.2.2⟩⟩⟩⟩⟩⟩,hk.1.1.2.2.1⟩)) hg hat);replace HO_24:=mk0 (Kd.V_afterv (ok:=(fun k_=>(P1_ k_ ∨ w.heap.size ≤ k_)∧some k_ ≠ (u5:Value).ownBlock∧some k_ ≠ (.slice Ao33 x208000_2.length co33:Value).ownBlock∧some k_ ≠ (.slice Ao35 t213.length co35:Value).ownBlock∧some k_ ≠ (.slice Ao42 y219.length co42:Value).ownBlock∧some k_ ≠ (.slice Ao45 t222.length co45:Value).ownBlock∧k_ ≠ gb207∧k_ ≠ gb212)) (by (with_reducible repeat (first|apply Kd.V_alloc|apply Kd.V_drewN|apply Kd.V_drew));exact Kd.V_mono HO_24.out (fun _ hk=>⟨⟨hk.1.1.1,⟨hk.1.1.2.1,⟨hk.1.1.2.2.1,⟨hk.1.1.2.2.2.2.1,⟨hk.1.2,⟨hk.2,⟨hk.1.1.2.2.2.2.2.1,hk.1.1.2.2.2.2.2.2⟩⟩⟩⟩⟩⟩⟩,hk.1.1.2.2.2.1⟩)) hg hat)
                replace HO_208000:=mk0 (Kd.R_over' HO_208000.out (Kd.N_typed HO_208001.out) (by decide) hg);replace BK207:=mk0 (blk_grown (g:=gb207) (o:=.cells #[.slice Ao35 t213.length co35,u208001] 60 (0,0)) BK207.out hg (Kd.N_ne HO_208001.out BK207.out (by decide)));replace HL211_0:=mk0 (Kd.V_afterv (ok:=(fun k_=>(P1_ k_ ∨ w.heap.size ≤ k_)∧some k_ ≠ (u5:Value).ownBlock∧some k_ ≠ (.slice Ao33 x208000_2.length co33:Value).ownBlock∧some k_ ≠ (.slice Ao35 t213.length co35:Value).ownBlock∧some k_ ≠ (.slice Ao42 y219.length co42:Value).ownBlock∧some k_ ≠ (.slice Ao45 t222.length co45:Value).ownBlock∧k_ ≠ gb207∧k_ ≠ gb212)) (by (with_reducible repeat (first|apply Kd.V_alloc|apply Kd.V_drewN|apply Kd.V_drew));exact Kd.V_mono HL211_0.out (fun _ hk=>⟨⟨hk.1.1.1,⟨hk.1.1.2.1,⟨hk.1.1.2.2.1,⟨hk.1.1.2.2.2.2.1,⟨hk.1.2,⟨hk.2,⟨hk.1.1.2.2.2.2.2.1,hk.1.1.2.2.2.2.2.2⟩⟩⟩⟩⟩⟩⟩,hk.1.1.2.2.2.1⟩)) hg hat);replace HL211_1:=mk0 (Kd.V_afterv (ok:=(fun k_=>(P1_ k_ ∨ w.heap.size ≤ k_)∧some k_ ≠ (u5:Value).ownBlock∧some k_ ≠ (.slice Ao33 x208000_2.length co33:Value).ownBlock∧some k_ ≠ (.slice Ao35 t213.length co35:Value).ownBlock∧some k_ ≠ (.slice Ao42 y219.length co42:Value).ownBlock∧some k_ ≠ (.slice Ao45 t222.length co45:Value).ownBlock∧k_ ≠ gb207∧k_ ≠ gb212)) (by (with_reducible repeat (first|apply Kd.V_alloc|apply Kd.V_drewN|apply Kd.V_drew));exact Kd.V_mono HL211_1.out (fun _ hk=>⟨⟨hk.1.1.1,⟨hk.1.1.2.1,⟨hk.1.1.2.2.1,⟨hk.1.1.2.2.2.2.1,⟨hk.1.2,⟨hk.2,⟨hk.1.1.2.2.2.2.2.1,hk.1.1.2.2.2.2.2.2⟩⟩⟩⟩⟩⟩⟩,hk.1.1.2.2.2.1⟩)) hg hat);replace BK212:=mk0 (blk_grown (g:=gb212) (o:=.cells #[.slice A211_0 ((rd_T60 l1 x26_2).f0).length c211_0,.slice A211_1 ((rd_T60 l1 x26_2).f1).length c211_1] 60 (0,0)) BK212.out hg (Kd.N_ne HO_208001.out BK212.out (by decide)));replace HO215:=mk0 (Kd.R_over' HO215.out (Kd.N_typed HO_208001.out) (by decide) hg);replace HO221:=mk0 (Kd.N_afterv (ok:=(fun k_=>(P1_ k_ ∨ w.heap.size ≤ k_)∧some k_ ≠ (u5:Value).ownBlock∧some k_ ≠ (.slice Ao33 x208000_2.length co33:Value).ownBlock∧some k_ ≠ (.slice Ao35 t213.length co35:Value).ownBlock∧some k_ ≠ (.slice Ao45 t222.length co45:Value).ownBlock∧k_ ≠ gb207∧k_ ≠ gb212)) (by (with_reducible repeat (first|apply Kd.N_alloc|apply Kd.N_drewN|apply Kd.N_drew));exact Kd.N_mono HO221.out (fun _ hk=>⟨⟨hk.1.1,⟨hk.1.2.1,⟨hk.1.2.2.1,⟨hk.1.2.2.2.2.1,⟨hk.2,⟨hk.1.2.2.2.2.2.1,hk.1.2.2.2.2.2.2⟩⟩⟩⟩⟩⟩,hk.1.2.2.2.1⟩)) hg hat);replace HO224:=mk0 (Kd.N_afterv (ok:=(fun k_=>(P1_ k_ ∨ w.heap.size ≤ k_)∧some k_ ≠ (u5:Value).ownBlock∧some k_ ≠ (.slice Ao33 x208000_2.length co33:Value).ownBlock∧some k_ ≠ (.slice Ao35 t213.length co35:Value).ownBlock∧some k_ ≠ (.slice Ao42 y219.length co42:Value).ownBlock∧k_ ≠ gb207∧k_ ≠ gb212)) (by (with_reducible repeat (first|apply Kd.N_alloc|apply Kd.N_drewN|apply Kd.N_drew));exact Kd.N_mono HO224.out (fun _ hk=>⟨⟨hk.1,⟨hk.2.1,⟨hk.2.2.1,⟨hk.2.2.2.2.1,⟨hk.2.2.2.2.2.1,⟨hk.2.2.2.2.2.2.1,hk.2.2.2.2.2.2.2⟩⟩⟩⟩⟩⟩,hk.2.2.2.1⟩)) hg hat);replace HB:=mk0 (hb);clear HO_208001;clear ho hb hg hat;obtain ⟨Ao46,co46,eo46⟩:=Kd.N_slice HO227.out;(first|subst eo46|(injection eo46 with f1_ f2_ f3_;have f4_:=f1_.symm;have f5_:=f3_.symm;clear f1_ f2_ f3_;subst f4_;subst f5_));refine hK.out _ _ ⟨(blk_cell BK207.out 0).trans rfl,(blk_cell BK207.out 1).trans rfl,(blk_cell BK212.out 0).trans rfl,(blk_cell BK212.out 1).trans rfl⟩ (fun hHeld=>?_);clear hK K;refine norm_ (a':=?_) ?_ ?_;rotate_left
                ·
                 show Act.put _ (some 51) _=_;simp only [Act.put,List.setIfInBounds_toArray,List.set_cons_zero,List.set_cons_succ,i64_w,i32_w];rfl
                refine pure_ (i:=10) (N:=some 52) (v:=?_) (a':=?_) #[true,true,true,true,true,true,true,true,true,true,true,false] rfl rfl (any_of HT_.out (by kernel_rfl)) (fun _ _ _ h=>h) (Or.inl ⟨by rfl,?_⟩) ?_ ?_;rotate_left
                ·
                 intro w';go_simp;with_reducible rfl
                rotate_left
                ·
                 simp only [Act.put,List.setIfInBounds_toArray,List.set_cons_zero,List.set_cons_succ,i64_w,i32_w];rfl
                refine last_ (i:=11) (N:=none) #[true,true,true,true,true,true,true,true,true,true,true,true] rfl rfl (one_of HT_.out (by kernel_rfl)) (by decide) (fun K hK=>?_);have hs47:w44.cell? ⟨gb207,1,none⟩=some (u208001):=(blk_cell BK207.out 1).trans rfl;have hfs47:=blk_frozen BK207.out 1;have hns47_1:=NB212_207.out;have hms47_1:=NB207_212.out;refine skip_ (w1:=?_) (by rfl) rfl ?_ ?_;rotate_left
                ·
                 go_simp;rfl
                refine hK.out _ _ ?_;clear hK K;refine done_ (done_of HT_.out (by kernel_rfl)) ?_;try go_wp2
                go_roundg k2
                case measure=>have:=HK1.out;have:=HK2.out;omega
                case rel=>exact ⟨(wrap64 (x26_2 + 1)),(t213),(y225),(.slice Ao35 t213.length co35),(.slice Ao46 y225.length co46),(by first|rfl|(simp;done)|(simp [*];done)),H',⟨by have:=HK1.out;have:=HK2.out;omega⟩,⟨by (with_reducible repeat (first|apply Kd.V_alloc|apply Kd.V_drewN|apply Kd.V_drew));exact Kd.V_mono (Kd.V_far (p:=⟨gb207,1,none⟩) (Kd.V_mono HO_1.out (fun k_ hk=>(⟨hk,hk.1.2.2.2.2.2.2.1⟩:_∧k_ ≠ gb207))) (fun _ hk=>hk.2) (.slice Ao46 y225.length co46)) (fun _ hk=>⟨hk.1.1.1,⟨hk.1.1.2.1,⟨hk.1.1.2.2.2.1,⟨hk.1.2,hk.1.1.2.2.2.2.2.2.1⟩⟩⟩⟩)⟩,⟨by (with_reducible repeat (first|apply Kd.N_alloc|apply Kd.N_drewN|apply Kd.N_drew));exact Kd.N_mono (Kd.N_far (p:=⟨gb207,1,none⟩) (Kd.N_mono HO_5.out (fun k_ hk=>(⟨hk,hk.1.2.2.2.2.2.1⟩:_∧k_ ≠ gb207))) (fun _ hk=>hk.2) (.slice Ao46 y225.length co46)) (fun _ hk=>⟨hk.1.1.1,⟨hk.1.1.2.2.1,⟨hk.1.2,hk.1.1.2.2.2.2.2.1⟩⟩⟩)⟩,⟨by (with_reducible repeat (first|apply Kd.V_alloc|apply Kd.V_drewN|apply Kd.V_drew));exact Kd.V_mono (Kd.V_far (p:=⟨gb207,1,none⟩) (Kd.V_mono HO_24.out (fun k_ hk=>(⟨hk,hk.1.2.2.2.2.2.2.1⟩:_∧k_ ≠ gb207))) (fun _ hk=>hk.2) (.slice Ao46 y225.length co46)) (fun _ hk=>⟨hk.1.1.1,⟨hk.1.1.2.1,⟨hk.1.1.2.2.2.1,⟨hk.1.2,hk.1.1.2.2.2.2.2.2.1⟩⟩⟩⟩)⟩,⟨by (with_reducible repeat (first|apply Kd.R_alloc|apply Kd.R_drewN|apply Kd.R_drew));exact Kd.R_mono (Kd.R_far (p:=⟨gb207,1,none⟩) (Kd.R_types HO215.out BK207.out (by decide)) (fun _ hk=>hk.2) (.slice Ao46 y225.length co46)) (fun _ hk=>hk.1.1)⟩,⟨by (with_reducible repeat (first|apply Kd.N_alloc|apply Kd.N_drewN|apply Kd.N_drew));exact Kd.N_mono (Kd.N_far (p:=⟨gb207,1,none⟩) (Kd.N_mono HO227.out (fun k_ hk=>(⟨hk,hk.2.2.2.2.2.1⟩:_∧k_ ≠ gb207))) (fun _ hk=>hk.2) (.slice Ao46 y225.length co46)) (fun _ hk=>⟨hk.1.1,⟨hk.1.2.1,⟨hk.1.2.2.2.1,hk.1.2.2.2.2.2.1⟩⟩⟩)⟩,⟨by refine blk_put (cs:=#[.slice Ao35 t213.length co35,u208001]) ?_ 1 _ rfl;exact BK207.out⟩,⟨by repeat (first|(with_reducible first|exact HB.out|apply below_alloc|apply pw_below_drewN|apply below_drew1|refine below_set ?_ GE207.out|refine below_set ?_ GE212.out)|exact HB.out)⟩⟩
               ·
                rw [if_neg c28] at H;exact absurd H (by simp)
              ·
               rw [if_neg c26] at H;exact absurd H (by simp)
             ·
              rw [if_neg c24] at H;have c24b0:((Go.bits .and .i64 (ji23) 1) == 1)=false:=beq_eq_false_iff_ne.mpr c24;have c24b1:((Go.bits .and .i64 (ji23) 1) != 1)=true:=bne_iff_ne.mpr c24;have H':=mk0 H;clear H;have p211:0 ≤ (x26_2:Int):=of_decide_eq_true (by first|(with_reducible assumption)|assumption);have q211:x26_2 < (l1.length:Int):=of_decide_eq_true (by first|(with_reducible assumption)|assumption);obtain ⟨ad211,A211_0,c211_0,A211_1,c211_1,e211,hx211_0,hx211_1,hl211_0,hi211_0,hl211_1,hi211_1⟩:=at_T60 (Kd.V_reads' HO_24.out).2.2 x26_2 p211 q211;cases e211;obtain ⟨ce211,hce211,hMe211,hcc211⟩:=Kd.V_get HO_24.out z60 x26_2 p211 (by first|exact q211|exact of_decide_eq_true (by first|(with_reducible assumption)|assumption)|(have e_:=(Kd.V_reads' HO_24.out).1;omega));obtain ⟨ua211_0,uc211_0,ua211_1,uc211_1,rfl,ul211_0,ge211_0,ul211_1,ge211_1⟩:=k60_openF hMe211;have hv211_0:=hcc211 0 _ rfl;rw [Nat.add_zero] at hv211_0;replace hv211_0:=Option.some.inj (hv211_0.symm.trans hx211_0);injection hv211_0 with hva_ hvn_ hvc_;rw [hva_] at ge211_0;rw [hvc_] at ul211_0;have HL211_0:=mk0 (show Kd.V (Kd.int .i64) 3 _ w.heap.size _ _ ((rd_T60 l1 x26_2).f0) from Kd.V_mk ul211_0 ge211_0);clear hva_ hvn_ hvc_ ge211_0 ul211_0;have hv211_1:=hcc211 1 _ rfl;rw [add_field _ _ 1 (by omega)] at hv211_1;replace hv211_1:=Option.some.inj (hv211_1.symm.trans hx211_1);injection hv211_1 with hva_ hvn_ hvc_;rw [hva_] at ge211_1;rw [hvc_] at ul211_1;have HL211_1:=mk0 (show Kd.V (Kd.slice 3 (Kd.int .i64)) 23 _ w.heap.size _ _ ((rd_T60 l1 x26_2).f1) from Kd.V_mk ul211_1 ge211_1);clear hva_ hvn_ hvc_ ge211_1 ul211_1;clear hcc211 hce211;have HR211_0:=mk0 hi211_0;have HC211_0:=mk0 hl211_0;clear hi211_0 hl211_0;have HR211_1:=mk0 hi211_1;have HC211_1:=mk0 hl211_1;clear hi211_1 hl211_1;replace p211:=eq_true p211;replace q211:=eq_true q211;go_wp2_with (first|((with_reducible refine gate_dst (N:=9) rfl ?_);refine box_event ?hg (N:=9) ?hd (cs:=#[.slice none 0 0,.slice none 0 0]) (t:=60) ?hr ?_;(case hd=>rfl);(case hg=>rfl);(case hr=>first|(go_simp;done)|(go_simp;rfl));intro gb212 hg w48 hbox hb;have BK212:=mk0 (hbox);have GW212:=szw hg HB;have GE212:=GW212;have NB207_212:=nlt hg BK207;have NB212_207:=ngt hg BK207;replace HO_1:=mk0 (Kd.V_below (Kd.V_elderB HO_1.out gb212 (Nat.le_of_eq hg.symm)) hb);replace HO_5:=mk0 (Kd.N_below (Kd.N_elderB HO_5.out gb212 (Nat.le_of_eq hg.symm)) hb);replace HO_24:=mk0 (Kd.V_below (Kd.V_elderB HO_24.out gb212 (Nat.le_of_eq hg.symm)) hb);replace HO_208000:=rbl HO_208000 hb;replace HO_208001:=mk0 (Kd.N_below (Kd.N_elderB HO_208001.out gb212 (Nat.le_of_eq hg.symm)) hb);replace HL211_0:=mk0 (Kd.V_below (Kd.V_elderB (by (with_reducible repeat (first|apply Kd.V_alloc|apply Kd.V_drewN|apply Kd.V_drew));exact HL211_0.out) gb212 (Nat.le_of_eq hg.symm)) hb);replace HL211_1:=mk0 (Kd.V_below (Kd.V_elderB (by (with_reducible repeat (first|apply Kd.V_alloc|apply Kd.V_drewN|apply Kd.V_drew));exact HL211_1.out) gb212 (Nat.le_of_eq hg.symm)) hb);replace BK207:=bkb BK207 hb;replace HR211_0:=mk0 (Kd.C_below (by repeat (first|(with_reducible exact HR211_0.out)|(with_reducible refine Kd.C_alloc ?_ _)|(with_reducible refine Kd.C_drewN ?_ _)|(with_reducible refine Kd.C_drew ?_)|exact HR211_0.out)) hb);replace HR211_1:=mk0 (Kd.C_below (by repeat (first|(with_reducible exact HR211_1.out)|(with_reducible refine Kd.C_alloc ?_ _)|(with_reducible refine Kd.C_drewN ?_ _)|(with_reducible refine Kd.C_drew ?_)|exact HR211_1.out)) hb);replace HB:=bst HB hb;clear hb hbox hg;have hnb49:=NB212_207.out;have hnc49:=NB207_212.out;have hcz50_0:w48.cell? ⟨gb212,0,none⟩=some (.slice none 0 0):=(blk_cell BK212.out 0).trans rfl;have hcz50_1:w48.cell? ⟨gb212,1,none⟩=some (.slice none 0 0):=(blk_cell BK212.out 1).trans rfl;have hfz50_0:=blk_frozen BK212.out 0;have hfz50_1:=blk_frozen BK212.out 1))
              go_roundg k2
              case measure=>have:=HK1.out;have:=HK2.out;omega
              case rel=>exact ⟨(wrap64 (x26_2 + 1)),(x208000_2),(x208001_2),(u208000),(u208001),(by first|rfl|(simp;done)|(simp [*];done)),H',⟨by have:=HK1.out;have:=HK2.out;omega⟩,⟨by (with_reducible repeat (first|apply Kd.V_alloc|apply Kd.V_drewN|apply Kd.V_drew));exact Kd.V_mono (Kd.V_far (p:=⟨gb212,1,none⟩) (Kd.V_far (p:=⟨gb212,0,none⟩) (Kd.V_mono HO_1.out (fun k_ hk=>(⟨hk,hk.2⟩:_∧k_ ≠ gb212))) (fun _ hk=>hk.2) (.slice A211_0 ((rd_T60 l1 x26_2).f0).length c211_0)) (fun _ hk=>hk.2) (.slice A211_1 ((rd_T60 l1 x26_2).f1).length c211_1)) (fun _ hk=>⟨hk.1.1.1,⟨hk.1.1.2.1,⟨hk.1.1.2.2.1,⟨hk.1.1.2.2.2.1,hk.1.1.2.2.2.2⟩⟩⟩⟩)⟩,⟨by (with_reducible repeat (first|apply Kd.N_alloc|apply Kd.N_drewN|apply Kd.N_drew));exact Kd.N_mono (Kd.N_far (p:=⟨gb212,1,none⟩) (Kd.N_far (p:=⟨gb212,0,none⟩) (Kd.N_mono HO_5.out (fun k_ hk=>(⟨hk,hk.2⟩:_∧k_ ≠ gb212))) (fun _ hk=>hk.2) (.slice A211_0 ((rd_T60 l1 x26_2).f0).length c211_0)) (fun _ hk=>hk.2) (.slice A211_1 ((rd_T60 l1 x26_2).f1).length c211_1)) (fun _ hk=>⟨hk.1.1.1,⟨hk.1.1.2.1,⟨hk.1.1.2.2.1,hk.1.1.2.2.2⟩⟩⟩)⟩,⟨by (with_reducible repeat (first|apply Kd.V_alloc|apply Kd.V_drewN|apply Kd.V_drew));exact Kd.V_mono (Kd.V_far (p:=⟨gb212,1,none⟩) (Kd.V_far (p:=⟨gb212,0,none⟩) (Kd.V_mono HO_24.out (fun k_ hk=>(⟨hk,hk.2⟩:_∧k_ ≠ gb212))) (fun _ hk=>hk.2) (.slice A211_0 ((rd_T60 l1 x26_2).f0).length c211_0)) (fun _ hk=>hk.2) (.slice A211_1 ((rd_T60 l1 x26_2).f1).length c211_1)) (fun _ hk=>⟨hk.1.1.1,⟨hk.1.1.2.1,⟨hk.1.1.2.2.1,⟨hk.1.1.2.2.2.1,hk.1.1.2.2.2.2⟩⟩⟩⟩)⟩,⟨by (with_reducible repeat (first|apply Kd.R_alloc|apply Kd.R_drewN|apply Kd.R_drew));exact Kd.R_mono (Kd.R_far (p:=⟨gb212,1,none⟩) (Kd.R_far (p:=⟨gb212,0,none⟩) (Kd.R_types HO_208000.out BK212.out (by decide)) (fun _ hk=>hk.2) (.slice A211_0 ((rd_T60 l1 x26_2).f0).length c211_0)) (fun _ hk=>hk.2) (.slice A211_1 ((rd_T60 l1 x26_2).f1).length c211_1)) (fun _ hk=>hk.1)⟩,⟨by (with_reducible repeat (first|apply Kd.N_alloc|apply Kd.N_drewN|apply Kd.N_drew));exact Kd.N_mono (Kd.N_far (p:=⟨gb212,1,none⟩) (Kd.N_far (p:=⟨gb212,0,none⟩) (Kd.N_mono HO_208001.out (fun k_ hk=>(⟨hk,hk.2⟩:_∧k_ ≠ gb212))) (fun _ hk=>hk.2) (.slice A211_0 ((rd_T60 l1 x26_2).f0).length c211_0)) (fun _ hk=>hk.2) (.slice A211_1 ((rd_T60 l1 x26_2).f1).length c211_1)) (fun _ hk=>⟨hk.1.1.1,⟨hk.1.1.2.1,⟨hk.1.1.2.2.1,hk.1.1.2.2.2⟩⟩⟩)⟩,⟨by (iterate 2 refine blk_far ?_ NB207_212.out _);exact BK207.out⟩,⟨by repeat (first|(with_reducible first|exact HB.out|apply below_alloc|apply pw_below_drewN|apply below_drew1|refine below_set ?_ GE207.out|refine below_set ?_ GE212.out)|exact HB.out)⟩⟩
            ·
             rw [if_neg c21] at H;exact absurd H (by simp)
           ·
            rw [if_neg c20] at H;exact absurd H (by simp)
          ·
           rw [if_neg c19] at H;have c19b0:decide (x26_2 < (l1.length:Int))=false:=decide_eq_false c19;clear c19
           by_cases c51:x5_1.length < 2932031007402
           ·
            rw [if_pos c51] at H;have LMc51:=mk0 c51;clear c51;obtain ⟨y208,hy208⟩:∃ y_:List (S60),y_=(x5_1 ++ [(⟨x208000_2,x208001_2⟩:S60)]):=⟨_,rfl⟩
            replace H:(count_star.l0 k2 a0 l1 y208 (wrap64 (x6_1 + 1)))=some r:=by first|(rw [hy208];with_reducible exact H)|(have H2_:=(Option.bind_some _ _).symm.trans H;rw [hy208];with_reducible exact H2_)|(have H2_:=(Option.bind_some _ _).symm.trans H;with_reducible exact H2_)|with_reducible exact H|(rw [hy208];exact H)|exact H
            have Ny208:=mk0 hy208;clear hy208;have H':=mk0 H;clear H;have hcz52_0:wr.cell? ⟨gb207,0,none⟩=some (u208000):=(blk_cell BK207.out 0).trans rfl;have hcz52_1:wr.cell? ⟨gb207,1,none⟩=some (u208001):=(blk_cell BK207.out 1).trans rfl;have hfz52_0:=blk_frozen BK207.out 0;have hfz52_1:=blk_frozen BK207.out 1;obtain ⟨Ao54,co54,eo54⟩:=Kd.R_slice HO_208000.out;subst eo54;obtain ⟨Ao55,co55,eo55⟩:=Kd.N_slice HO_208001.out;subst eo55;go_wp2_with (first|((with_reducible refine gate_builtin (b:=.append) (xs:=#[.tmp 54,.tmp 56]) rfl ?_);at_builtin;refine Kd.N_append k60 (w0:=w) w.heap.size rfl (.tmp 54) (.tmp 56) 22 60 (.agg #[(.slice none 0 0),(.slice none 0 0)]) 48 rfl Try.underlying22 info60 rfl (by decide) (by omega) u5 x5_1 (⟨x208000_2,x208001_2⟩:S60) [.slice Ao54 x208000_2.length co54,.slice Ao55 x208001_2.length co55] (fun k_=>(P1_ k_ ∨ w.heap.size ≤ k_)∧k_ ≠ gb207) (fun k_=>((fun k_=>(P1_ k_ ∨ w.heap.size ≤ k_)∧k_ ≠ gb207)) k_∧some k_ ≠ (u5:Value).ownBlock) rfl rfl ?aP (fun _ hk=>hk) ?aF ?aO ?aB ?aS ?aL ?_;(case aP=>exact (k60_mkF _ _ (⟨x208000_2,x208001_2⟩:S60) (Kd.R_reads' (Kd.R_mono (ok':=(fun k_=>((fun k_=>(P1_ k_ ∨ w.heap.size ≤ k_)∧k_ ≠ gb207)) k_∧some k_ ≠ (u5:Value).ownBlock)) (Kd.R_types (Kd.R_apart' (HO_208000.out) (Kd.N_typed HO_5.out) (by decide)) BK207.out (by decide)) (fun k_ hk=>⟨⟨(.inr (hk.1.1)),hk.2⟩,hk.1.2⟩))).2.1 (Kd.R_F (Kd.R_mono (ok':=(fun k_=>((fun k_=>(P1_ k_ ∨ w.heap.size ≤ k_)∧k_ ≠ gb207)) k_∧some k_ ≠ (u5:Value).ownBlock)) (Kd.R_types (Kd.R_apart' (HO_208000.out) (Kd.N_typed HO_5.out) (by decide)) BK207.out (by decide)) (fun k_ hk=>⟨⟨(.inr (hk.1.1)),hk.2⟩,hk.1.2⟩))) (Kd.N_reads' (Kd.N_mono (ok':=(fun k_=>((fun k_=>(P1_ k_ ∨ w.heap.size ≤ k_)∧k_ ≠ gb207)) k_∧some k_ ≠ (u5:Value).ownBlock)) (HO_208001.out) (fun k_ hk=>⟨⟨hk.1,hk.2.2.2⟩,hk.2.1⟩))).2.1 (Kd.N_F (Kd.N_mono (ok':=(fun k_=>((fun k_=>(P1_ k_ ∨ w.heap.size ≤ k_)∧k_ ≠ gb207)) k_∧some k_ ≠ (u5:Value).ownBlock)) (HO_208001.out) (fun k_ hk=>⟨⟨hk.1,hk.2.2.2⟩,hk.2.1⟩)))));(case aB=>exact (by repeat (first|(with_reducible first|exact HB.out|apply below_alloc|apply pw_below_drewN|apply below_drew1|refine below_set ?_ GE207.out)|exact HB.out)));(case aF=>exact (fun k_ hk=>⟨(.inr (Nat.le_trans (below_size (by repeat (first|(with_reducible first|exact HB.out|apply below_alloc|apply pw_below_drewN|apply below_drew1|refine below_set ?_ GE207.out)|exact HB.out))) hk)),Kd.freshB (g:=gb207) (o:=.cells #[.slice Ao54 x208000_2.length co54,.slice Ao55 x208001_2.length co55] 60 (0,0)) (by (with_reducible repeat (first|refine blk_drewN ?_ _|refine blk_drew ?_|refine blk_alloc ?_ _));exact BK207.out) k_ hk⟩));(case aO=>exact (by (with_reducible repeat (first|apply Kd.N_alloc|apply Kd.N_drewN|apply Kd.N_drew));exact Kd.N_mono HO_5.out (fun _ hk=>⟨hk.1,hk.2.2.2⟩)));(case aS=>exact (below_size (by repeat (first|(with_reducible first|exact HB.out|apply below_alloc|apply pw_below_drewN|apply below_drew1|refine below_set ?_ GE207.out)|exact HB.out))));(case aL=>have:=LMc51.out;omega);intro v209 w53 ho hb hg hat;rw [← Ny208.out] at ho;have HO210:=mk0 (ho);replace HO_1:=mk0 (Kd.V_afterv (ok:=(fun k_=>(P1_ k_ ∨ w.heap.size ≤ k_)∧some k_ ≠ (.slice Ao54 x208000_2.length co54:Value).ownBlock∧some k_ ≠ (.slice Ao55 x208001_2.length co55:Value).ownBlock∧k_ ≠ gb207)) (by (with_reducible repeat (first|apply Kd.V_alloc|apply Kd.V_drewN|apply Kd.V_drew));exact Kd.V_mono HO_1.out (fun _ hk=>⟨⟨hk.1,⟨hk.2.2.1,⟨hk.2.2.2.1,hk.2.2.2.2⟩⟩⟩,hk.2.1⟩)) hg hat);replace HO_24:=mk0 (Kd.V_afterv (ok:=(fun k_=>(P1_ k_ ∨ w.heap.size ≤ k_)∧some k_ ≠ (.slice Ao54 x208000_2.length co54:Value).ownBlock∧some k_ ≠ (.slice Ao55 x208001_2.length co55:Value).ownBlock∧k_ ≠ gb207)) (by (with_reducible repeat (first|apply Kd.V_alloc|apply Kd.V_drewN|apply Kd.V_drew));exact Kd.V_mono HO_24.out (fun _ hk=>⟨⟨hk.1,⟨hk.2.2.1,⟨hk.2.2.2.1,hk.2.2.2.2⟩⟩⟩,hk.2.1⟩)) hg hat);replace BK207:=mk0 (blk_grown (g:=gb207) (o:=.cells #[.slice Ao54 x208000_2.length co54,.slice Ao55 x208001_2.length co55] 60 (0,0)) (by (with_reducible repeat (first|refine blk_drewN ?_ _|refine blk_drew ?_|refine blk_alloc ?_ _));exact BK207.out) hg (Kd.N_away HO_5.out (fun _ hk=>hk.2.2.2)));replace HB:=mk0 (hb);clear HO_5;clear HO_208000;clear HO_208001;clear ho hb hg hat))
            go_roundg k2
            case measure=>have:=HK1.out;have:=HK2.out;omega
            case rel=>exact ⟨(y208),(wrap64 (x6_1 + 1)),(by first|rfl|(simp;done)|(simp [*];done)),H',⟨by have:=HK1.out;have:=HK2.out;omega⟩,⟨by (with_reducible repeat (first|apply Kd.V_alloc|apply Kd.V_drewN|apply Kd.V_drew));exact Kd.V_mono HO_1.out (fun _ hk=>⟨hk.1.1,hk.2⟩)⟩,⟨by (with_reducible repeat (first|apply Kd.N_alloc|apply Kd.N_drewN|apply Kd.N_drew));exact Kd.N_mono HO210.out (fun _ hk=>hk.1)⟩,⟨by repeat (first|(with_reducible first|exact HB.out|apply below_alloc|apply pw_below_drewN|apply below_drew1|refine below_set ?_ GE207.out)|exact HB.out)⟩⟩
           ·
            rw [if_neg c51] at H;exact absurd H (by simp)
       ·
        rw [if_neg c13] at H;exact absurd H (by simp)
      ·
       rw [if_neg c12] at H;exact absurd H (by simp)
     ·
      rw [if_neg c11] at H;have c11b0:decide (x6_1 < (ji10))=false:=decide_eq_false c11;clear c11;obtain rfl:=Option.some.inj H;go_wp2;go_ret;exact ⟨_,by first|rfl|(simp [errW_none,errW_some] <;> rfl)|(simp only [← hji10];first|rfl|(simp [errW_none,errW_some] <;> rfl))|(simp [*,errW_none,errW_some] <;> rfl),by (with_reducible repeat (first|apply Kd.N_alloc|apply Kd.N_drewN|apply Kd.N_drew));exact HO_5.out,by repeat (first|(with_reducible first|exact HB.out|apply below_alloc|apply pw_below_drewN|apply below_drew1)|exact HB.out)⟩
  ·
   rw [if_neg c4] at H;exact absurd H (by simp)
 ·
  rw [if_neg c3] at H;exact absurd H (by simp)
def count_Image_4.f (k:Nat) (l0_0:List (S60)) (a0_1:Bool):Option ((List (S60)) × Bool):=if a0_1=true then (some (l0_0,a0_1)) else ((count_star.f k 3 l0_0).bind fun t230=>((count_valid.f k t230 ([]:List (S102))).bind fun bt233=>(some (bt233.1,bt233.2))))
theorem count_Image_4.mono:∀ a0 a1 k,LeO (count_Image_4.f k a0 a1) (count_Image_4.f (k + 1) a0 a1):=by
  intro a0 a1 k
  unfold count_Image_4.f
  with_reducible repeat' first|exact count_star.mono _ _ _|exact count_valid.mono _ _ _|exact LeO.refl _|exact LeO.none _|refine LeO.ite ?_ ?_|refine LeO.bind ?_ (fun _=>?_)
set_option maxHeartbeats 8000000 in
set_option maxRecDepth 100000 in
theorem count_Image_4.calls (k:Nat) (P0_0_:Nat → Prop) (A0_0:Option Addr) (c0_0:Nat) (l0_0:List (S60)) (a0_1:Bool) (r1:List (S60)) (r2:Bool) (w:World) (hs0_0:Kd.V k60 60 w w.heap.size (fun k_=>P0_0_ k_) (.slice A0_0 l0_0.length c0_0) l0_0) (h:count_Image_4.f k l0_0 a0_1=some (r1,r2)) :
    Calls Try.prog 70 #[.agg #[.slice A0_0 l0_0.length c0_0,.bool a0_1]] w fun e w'=>∃ v0_:Value,e=.returned (.agg #[v0_,.bool r2])∧Kd.V k60 60 w' w.heap.size (fun k_=>(P0_0_ k_ ∨ w.heap.size ≤ k_)) v0_ r1∧Below w.heap.size w w':=by
 have hu102:=Try.underlying102;have HO0_0:=mk0 (show Kd.V k60 60 w w.heap.size (fun k_=>(P0_0_ k_ ∨ w.heap.size ≤ k_)) (.slice A0_0 l0_0.length c0_0) l0_0 from Kd.V_mono hs0_0 (fun k_ hk=>.inl hk));have HB:=mk0 (Below.refl w.heap.size w);have H:(if a0_1=true then (some (l0_0,a0_1)) else ((count_star.f k 3 l0_0).bind fun t230=>((count_valid.f k t230 ([]:List (S102))).bind fun bt233=>(some (bt233.1,bt233.2)))))=some (r1,r2):=h;clear h
 by_cases c2:a0_1=true
 ·
  subst c2;have H1:(some (l0_0,true))=some (r1,r2):=by rw [if_pos rfl] at H;exact H
  clear H;have H:=H1;clear H1;simp only [Option.some.injEq,Prod.mk.injEq] at H;obtain ⟨rfl,rfl⟩:=H;go_enter Try.func70,Try.ntmps70;go_wp2_with (first|((with_reducible refine gate_dst (N:=1) rfl ?_);refine box_event ?hg (N:=1) ?hd (cs:=#[.slice A0_0 l0_0.length c0_0,.bool true]) (t:=102) ?hr ?_;(case hd=>rfl);(case hg=>rfl);(case hr=>first|(go_simp;done)|(go_simp;rfl));intro gb228 hg w3 hbox hb;have BK228:=mk0 (hbox);have GW228:=szw hg HB;have GE228:=GW228;replace HO0_0:=mk0 (Kd.V_below (Kd.V_elderB HO0_0.out gb228 (Nat.le_of_eq hg.symm)) hb);replace HB:=bst HB hb;clear hb hbox hg)|((with_reducible refine gate_dst (N:=2) rfl ?_);refine box_event ?hg (N:=2) ?hd (cs:=#[.slice none 0 0,.bool false]) (t:=102) ?hr ?_;(case hd=>rfl);(case hg=>rfl);(case hr=>first|(go_simp;done)|(go_simp;rfl));intro gb229 hg w4 hbox hb;have BK229:=mk0 (hbox);have GW229:=szw hg HB;have GE229:=GW229;have NB228_229:=nlt hg BK228;have NB229_228:=ngt hg BK228;replace HO0_0:=mk0 (Kd.V_below (Kd.V_elderB HO0_0.out gb229 (Nat.le_of_eq hg.symm)) hb);replace BK228:=bkb BK228 hb;replace HB:=bst HB hb;clear hb hbox hg;have hnb5:=NB228_229.out;have hnc5:=NB229_228.out;have hcz6_0:w4.cell? ⟨gb228,0,none⟩=some (.slice A0_0 l0_0.length c0_0):=(blk_cell BK228.out 0).trans rfl;have hcz6_1:w4.cell? ⟨gb228,1,none⟩=some (.bool true):=(blk_cell BK228.out 1).trans rfl;have hfz6_0:=blk_frozen BK228.out 0;have hfz6_1:=blk_frozen BK228.out 1;have hcz7_0:w4.cell? ⟨gb229,0,none⟩=some (.slice none 0 0):=(blk_cell BK229.out 0).trans rfl;have hcz7_1:w4.cell? ⟨gb229,1,none⟩=some (.bool false):=(blk_cell BK229.out 1).trans rfl;have hfz7_0:=blk_frozen BK229.out 0;have hfz7_1:=blk_frozen BK229.out 1));refine bodyPost_ret (results_cell_row rfl _ _ gb229 102 #[.slice A0_0 l0_0.length c0_0,.bool true] (0,0) _ rfl (by refine blk_put (cs:=#[.slice A0_0 l0_0.length c0_0,.bool false]) ?_ 1 _ rfl;refine blk_put (cs:=#[.slice none 0 0,.bool false]) ?_ 0 _ rfl;exact BK229.out) Try.underlying102 rfl (by kernel_rfl)) rfl ?_;exact ⟨_,by first|rfl|(simp [errW_none,errW_some] <;> rfl)|(simp [*,errW_none,errW_some] <;> rfl),by (with_reducible repeat (first|apply Kd.V_alloc|apply Kd.V_drewN|apply Kd.V_drew));exact Kd.V_mono (Kd.V_far (p:=⟨gb229,1,none⟩) (Kd.V_far (p:=⟨gb229,0,none⟩) (Kd.V_mono HO0_0.out (fun k_ hk=>(⟨hk,hk.2⟩:_∧k_ ≠ gb229))) (fun _ hk=>hk.2) (.slice A0_0 l0_0.length c0_0)) (fun _ hk=>hk.2) (.bool true)) (fun _ hk=>hk.1.1.1),by repeat (first|(with_reducible first|exact HB.out|apply below_alloc|apply pw_below_drewN|apply below_drew1|refine below_set ?_ GE228.out|refine below_set ?_ GE229.out)|exact HB.out)⟩
 ·
  replace c2:=Bool.eq_false_iff.mpr c2;subst c2;have H1:((count_star.f k 3 l0_0).bind fun t230=>((count_valid.f k t230 ([]:List (S102))).bind fun bt233=>(some (bt233.1,bt233.2))))=some (r1,r2):=by rw [if_neg (show ¬ (false=true) by decide)] at H;exact H
  clear H;have H:=H1;clear H1;replace H:=Option.bind_eq_some_iff.mp H;obtain ⟨t230,A80,H⟩:=H;(try dsimp only at H);have A8:=mk0 A80;clear A80;replace H:=Option.bind_eq_some_iff.mp H;obtain ⟨⟨t233,t236⟩,A90,H⟩:=H;(try dsimp only at H);have A9:=mk0 A90;clear A90;simp only [Option.some.injEq,Prod.mk.injEq] at H;obtain ⟨rfl,rfl⟩:=H;go_enter Try.func70,Try.ntmps70;go_wp2_with (first|((with_reducible refine gate_dst (N:=1) rfl ?_);refine box_event ?hg (N:=1) ?hd (cs:=#[.slice A0_0 l0_0.length c0_0,.bool false]) (t:=102) ?hr ?_;(case hd=>rfl);(case hg=>rfl);(case hr=>first|(go_simp;done)|(go_simp;rfl));intro gb228 hg w10 hbox hb;have BK228:=mk0 (hbox);have GW228:=szw hg HB;have GE228:=GW228;replace HO0_0:=mk0 (Kd.V_below (Kd.V_elderB HO0_0.out gb228 (Nat.le_of_eq hg.symm)) hb);replace HB:=bst HB hb;clear hb hbox hg)|((with_reducible refine gate_dst (N:=2) rfl ?_);refine box_event ?hg (N:=2) ?hd (cs:=#[.slice none 0 0,.bool false]) (t:=102) ?hr ?_;(case hd=>rfl);(case hg=>rfl);(case hr=>first|(go_simp;done)|(go_simp;rfl));intro gb229 hg w11 hbox hb;have BK229:=mk0 (hbox);have GW229:=szw hg HB;have GE229:=GW229;have NB228_229:=nlt hg BK228;have NB229_228:=ngt hg BK228;replace HO0_0:=mk0 (Kd.V_below (Kd.V_elderB HO0_0.out gb229 (Nat.le_of_eq hg.symm)) hb);replace BK228:=bkb BK228 hb;replace HB:=bst HB hb;clear hb hbox hg;have hnb12:=NB228_229.out;have hnc12:=NB229_228.out;have hcz13_0:w11.cell? ⟨gb228,0,none⟩=some (.slice A0_0 l0_0.length c0_0):=(blk_cell BK228.out 0).trans rfl;have hcz13_1:w11.cell? ⟨gb228,1,none⟩=some (.bool false):=(blk_cell BK228.out 1).trans rfl;have hfz13_0:=blk_frozen BK228.out 0;have hfz13_1:=blk_frozen BK228.out 1)|((with_reducible refine gate_callee (f:=71) rfl ?_);refine goesL_ (some 8) rfl rfl Try.func71 (by kernel_rfl) rfl #[.int .i64 3,.slice A0_0 l0_0.length c0_0] rfl (by (try simp only [List.map_toArray,List.map_cons,List.map_nil]);first|done|rfl|(simp only [List.length_drop,List.length_take];rfl)) ?_;(with_reducible refine (count_star.calls k 3 (fun k_=>(((P0_0_ k_ ∨ w.heap.size ≤ k_)∧k_ ≠ gb228)∧k_ ≠ gb229)) _ _ l0_0 t230 _ ?side1 A8.out).mono ?_);(case side1=>exact HO0_0.out);rintro e w14 ⟨v231,rfl,ho0,hb⟩;refine ⟨_,rfl,?_⟩;have HO232:=mk0 (Kd.N_lower (Kd.N_mono (ok':=fun k_=>(P0_0_ k_ ∨ w.heap.size ≤ k_)∧k_ ≠ gb228∧k_ ≠ gb229) ho0 (fun k_ hk_=>⟨Or.elim hk_ (fun hs_=>hs_.1.1) (fun hn_=>(.inr (Nat.le_trans (below_size HB.out) hn_))),Or.elim hk_ (fun hs_=>hs_.1.2) (fun hn_=>(Kd.freshB (g:=gb228) (o:=.cells #[.slice A0_0 l0_0.length c0_0,.bool false] 102 (0,0)) BK228.out k_ hn_)),Or.elim hk_ (fun hs_=>hs_.2) (fun hn_=>(Kd.freshB (g:=gb229) (o:=.cells #[.slice none 0 0,.bool false] 102 (0,0)) BK229.out k_ hn_))⟩)) (below_size HB.out));replace HO0_0:=mk0 (Kd.V_elder' HO0_0.out (by first|exact Kd.N_base ho0|exact Kd.S_base ho0|exact Kd.R_base ho0) hb);replace BK228:=bkb BK228 hb;replace BK229:=bkb BK229 hb;replace HB:=bst HB hb;(try clear hb);(try clear ho0);obtain ⟨Ao15,co15,eo15⟩:=Kd.N_slice HO232.out;subst eo15)|((with_reducible refine gate_callee (f:=66) rfl ?_);refine goesL_ (some 9) rfl rfl Try.func66 (by kernel_rfl) rfl #[.slice Ao15 t230.length co15,.slice none 0 0] rfl (by (try simp only [List.map_toArray,List.map_cons,List.map_nil]);first|done|rfl|(simp only [List.length_drop,List.length_take];rfl)) ?_;(refine (count_valid.calls k (fun k_=>((P0_0_ k_ ∨ w.heap.size ≤ k_)∧(k_ ≠ gb228∧k_ ≠ gb229))) _ _ t230 _ _ ([]:List (S102)) t233 t236 _ ?side1 ?side2 ?side3 A9.out).mono ?_);(case side1=>exact Kd.N_V (HO232.out));(case side2=>exact Kd.C_nil _ _);(case side3=>exact Nat.le_refl _);rintro e w16 ⟨v234,rfl,ho0,hb⟩;refine ⟨_,rfl,?_⟩;have HO235:=mk0 (Kd.V_lower (Kd.V_mono (ok':=fun k_=>(P0_0_ k_ ∨ w.heap.size ≤ k_)∧k_ ≠ gb228∧k_ ≠ gb229) ho0 (fun k_ hk_=>⟨Or.elim hk_ (fun hs_=>hs_.1) (fun hn_=>(.inr (Nat.le_trans (below_size HB.out) hn_))),Or.elim hk_ (fun hs_=>hs_.2.1) (fun hn_=>(Kd.freshB (g:=gb228) (o:=.cells #[.slice A0_0 l0_0.length c0_0,.bool false] 102 (0,0)) BK228.out k_ hn_)),Or.elim hk_ (fun hs_=>hs_.2.2) (fun hn_=>(Kd.freshB (g:=gb229) (o:=.cells #[.slice none 0 0,.bool false] 102 (0,0)) BK229.out k_ hn_))⟩)) (below_size HB.out));replace HO0_0:=mk0 (Kd.V_below HO0_0.out hb);replace HO232:=mk0 (Kd.N_below HO232.out hb);replace BK228:=bkb BK228 hb;replace BK229:=bkb BK229 hb;replace HB:=bst HB hb;(try clear hb);(try clear ho0);obtain ⟨Ao17,co17,eo17⟩:=Kd.V_slice HO235.out;subst eo17;have hcz18_0:w16.cell? ⟨gb229,0,none⟩=some (.slice none 0 0):=(blk_cell BK229.out 0).trans rfl;have hcz18_1:w16.cell? ⟨gb229,1,none⟩=some (.bool false):=(blk_cell BK229.out 1).trans rfl;have hfz18_0:=blk_frozen BK229.out 0;have hfz18_1:=blk_frozen BK229.out 1))
  refine bodyPost_ret (results_cell_row rfl _ _ gb229 102 #[.slice Ao17 t233.length co17,.bool t236] (0,0) _ rfl (by refine blk_put (cs:=#[.slice Ao17 t233.length co17,.bool false]) ?_ 1 _ rfl;refine blk_put (cs:=#[.slice none 0 0,.bool false]) ?_ 0 _ rfl;exact BK229.out) Try.underlying102 rfl (by kernel_rfl)) rfl ?_;exact ⟨_,by first|rfl|(simp [errW_none,errW_some] <;> rfl)|(simp [*,errW_none,errW_some] <;> rfl),by (with_reducible repeat (first|apply Kd.V_alloc|apply Kd.V_drewN|apply Kd.V_drew));exact Kd.V_mono (Kd.V_far (p:=⟨gb229,1,none⟩) (Kd.V_far (p:=⟨gb229,0,none⟩) (Kd.V_mono HO235.out (fun k_ hk=>(⟨hk,hk.2.2⟩:_∧k_ ≠ gb229))) (fun _ hk=>hk.2) (.slice Ao17 t233.length co17)) (fun _ hk=>hk.2) (.bool t236)) (fun _ hk=>hk.1.1),by repeat (first|(with_reducible first|exact HB.out|apply below_alloc|apply pw_below_drewN|apply below_drew1|refine below_set ?_ GE228.out|refine below_set ?_ GE229.out)|exact HB.out)⟩
theorem info102m:(Try.prog.info? 102).map (fun i=>(i.zero,i.size,i.bytes))=some (some (.agg #[.slice none 0 0,.bool false]),2,32):=by kernel_rfl
abbrev Img:=List S60 × Bool
def RepI (lo:Nat) (w:World) (own:Option Nat) (row:List Value) (x:Img):Prop:=∃ (A:Option Addr) (c:Nat) (ok:Nat → Prop),row=[.slice A x.1.length c,.bool x.2]∧x.1.length ≤ c∧Kd.F k60 w ok A x.1.length x.1∧∀ k,ok k → lo ≤ k∧k < w.heap.size∧some k ≠ own
theorem F_bound' {w:World} {ok:Nat → Prop} {A:Option Addr} {xs:List S60} (h:Kd.F k60 w ok A xs.length xs):Kd.F k60 w (fun k=>ok k∧k < w.heap.size) A xs.length xs:=fun W' hW=>h W' (fun k hk hlt=>hW k ⟨hk,hlt⟩ hlt)
theorem RepI.below {lo:Nat} {w w':World} {own:Option Nat} {row:List Value} {x:Img} (h:RepI lo w own row x) (hb:Below w.heap.size w w'):RepI lo w' own row x:=by
  obtain ⟨A,c,ok,h1,h2,h3,h4⟩:=h
  exact ⟨A,c,ok,h1,h2,Kd.F_below h3 hb,fun k hk=>⟨(h4 k hk).1,by have:=(h4 k hk).2.1;have:=hb.size;omega,(h4 k hk).2.2⟩⟩
theorem RepI.step {lo:Nat} {w w':World} {own own':Option Nat} {row:List Value} {x:Img} (h:RepI lo w own row x) (hg:w.grownBy w' own) (hat:own'=own ∨ ∃ b,own'=some b∧w.heap.size ≤ b):RepI lo w' own' row x:=by
  obtain ⟨A,c,ok,h1,h2,h3,h4⟩:=h
  refine ⟨A,c,ok,h1,h2,Kd.F_step h3 (fun k hk hlt=>hg.block k hlt (h4 k hk).2.2),fun k hk=>⟨(h4 k hk).1,by have:=(h4 k hk).2.1;have:=hg.size;omega,?_⟩⟩
  rcases hat with e|⟨b,e,hb⟩
  · rw [e];exact (h4 k hk).2.2
  · rw [e];intro e2;injection e2 with e2;have:=(h4 k hk).2.1;omega
def RepsI (lo:Nat) (w:World) (own:Option Nat) (rows:List (List Value)) (st:List Img):Prop:=rows.length=st.length∧∀ (j:Nat) (row:List Value) (x:Img),rows[j]?=some row → st[j]?=some x → RepI lo w own row x
theorem RepsI.below {lo:Nat} {w w':World} {own:Option Nat} {rows:List (List Value)} {st:List Img} (h:RepsI lo w own rows st) (hb:Below w.heap.size w w'):RepsI lo w' own rows st:=⟨h.1,fun j row x h1 h2=>(h.2 j row x h1 h2).below hb⟩
theorem RepsI.push {lo:Nat} {w w':World} {own own':Option Nat} {rows:List (List Value)} {st:List Img} {row:List Value} {x:Img} (h:RepsI lo w own rows st) (hx:RepI lo w own row x) (hg:w.grownBy w' own) (hat:own'=own ∨ ∃ b,own'=some b∧w.heap.size ≤ b):RepsI lo w' own' (rows ++ [row]) (st ++ [x]):=by
  refine ⟨by simp [h.1],fun j c K h1 h2=>?_⟩
  by_cases hj:j < rows.length
  · rw [List.getElem?_append_left hj] at h1
    rw [List.getElem?_append_left (by have:=h.1;omega)] at h2
    exact (h.2 j c K h1 h2).step hg hat
  · rw [List.getElem?_append_right (by omega)] at h1
    rw [List.getElem?_append_right (by have:=h.1;omega)] at h2
    have e:j - rows.length=j - st.length:=by have:=h.1;omega
    rw [e] at h1
    rcases hq:j - st.length with _|q
    · rw [hq] at h1 h2
      simp at h1 h2
      subst h1;subst h2
      exact hx.step hg hat
    · rw [hq] at h1
      simp at h1
theorem RepsI.take {lo:Nat} {w:World} {own:Option Nat} {bs cs:List (List Value)} {st tt:List Img} (h:RepsI lo w own (bs ++ cs) (st ++ tt)) (hl:bs.length=st.length):RepsI lo w own bs st:=by
  refine ⟨hl,fun j c K h1 h2=>h.2 j c K ?_ ?_⟩
  · rw [List.getElem?_append_left (List.getElem?_eq_some_iff.1 h1).1];exact h1
  · rw [List.getElem?_append_left (List.getElem?_eq_some_iff.1 h2).1];exact h2
def StopX (p:Prop):Prop:=p
theorem stopx_ {p:Prop} (h:StopX p):p:=h
theorem img_call {g:Nat} {args:Array Value} {W wr:World} {x:List S60} {f:Bool} {ok ok':Nat → Prop} (h:Calls Try.prog g args W fun e w'=>∃ v0_:Value,e=.returned (.agg #[v0_,.bool f])∧Kd.V k60 60 w' W.heap.size ok v0_ x∧Below W.heap.size W w') (hk:∀ k,ok k → ok' k) :
    Calls Try.prog g args W fun e w'=>∃ v0_:Value,e=.returned (.agg #[v0_,.bool f])∧Kd.V k60 60 w' wr.heap.size ok' v0_ x∧Below W.heap.size W w':=by
  refine h.mono ?_
  rintro e w' ⟨v,rfl,⟨A,c,e,hl,hF⟩,hb⟩
  exact ⟨v,rfl,⟨A,c,e,hl,Kd.F_mono hF hk⟩,hb⟩
def runI (k:Nat):List UInt8 → List Img → Option (Option Img):=Mach.run (fun i=>count_Image_1.f i) (fun a b=>count_Image_2.f k a.1 a.2 b.1 b.2) (fun a b=>count_Image_3.f k a.1 a.2 b.1 b.2) (fun a=>count_Image_4.f k a.1 a.2)
def endI (st:List Img):Option Img:=match st with|[x]=>some x|_=>none
theorem endI_run {k:Nat} {st:List Img} {r:Option Img} (h:runI k [] st=some r):r=endI st:=by
  match st,h with
  | [],h=>exact (Option.some.inj h).symm
  | [x],h=>exact (Option.some.inj h).symm
  | x :: y :: t,h=>exact (Option.some.inj h).symm
theorem endI_none {st:List Img} (h:st.length ≠ 1):endI st=none:=by
  match st,h with
  | [],_=>rfl
  | [x],h=>exact absurd rfl h
  | x :: y :: t,_=>rfl
theorem results_cell_tmp {P:Program} {fn:Func} {p u:Tmp} {ty:TypeId} (h:fn.results=#[.cell p ty,.tmp u]) (tmps:Array Value) (w:World) (g:Nat) (t:TypeId) (cs:Array Value) (fr:Nat × Nat) (d:TypeDesc)
    (hp:tmps.getD p undef=.pointer (some ⟨g,0,none⟩)) (hg:w.heap[g]?=some (.cells cs t fr))
    (hu:P.underlying ty=some d) (hd:(match d with|.struct _|.array _ _=>true|_=>false)=true) (hi:(P.info? ty).map (·.size)=some cs.size) :
    (results fn tmps).run P w=.ok (.tuple #[.agg cs,tmps.getD u undef]) w:=by
  have hp':tmps[p]?.getD undef=.pointer (some ⟨g,0,none⟩):=by simpa using hp
  simp [results,h,hp',asAddr,run_loadVar_row w g t ty cs fr d hg hu hd hi]
abbrev kimg:Kd (List Value):=Kd.raw 2
def ImgPost (w w':World) (r:Option Img) (e:Ending):Prop:=∃ (v:Value) (f:Bool),e=.returned (.tuple #[.agg #[v,.bool f],.bool r.isSome])∧(∀ x,r=some x → f=x.2∧Kd.V k60 60 w' w.heap.size (fun k_=>w.heap.size ≤ k_) v x.1)∧(r=none → v=.slice none 0 0)∧Below w.heap.size w w'
theorem imgPost_none {w w':World} (h:Below w.heap.size w w'):ImgPost w w' none (.returned (.tuple #[.agg #[.slice none 0 0,.bool false],.bool false])):=⟨_,_,rfl,fun x h=>(by cases h),fun _=>rfl,h⟩
theorem imgPost_some {w w':World} {v:Value} {x:Img} (hv:Kd.V k60 60 w' w.heap.size (fun k_=>w.heap.size ≤ k_) v x.1) (h:Below w.heap.size w w'):ImgPost w w' (some x) (.returned (.tuple #[.agg #[v,.bool x.2],.bool true])):=⟨_,_,rfl,fun y h=>(by obtain rfl:=Option.some.inj h;exact ⟨rfl,hv⟩),fun h=>(by cases h),h⟩
theorem img_push {lo:Nat} {w W w10:World} {A:Option Addr} {n cc gb g4 g7:Nat} {rows:List (List Value)} {st:List Img} {row:List Value} {x:Img} {cells:Array Value} {v1:Value} (hO:kimg.R 102 W w.heap.size (fun k=>lo ≤ k) (.slice A n cc) rows) (hP:RepsI lo W (Value.slice A n cc).ownBlock rows st) (hL:RepI lo W (Value.slice A n cc).ownBlock row x) (hB:Below w.heap.size w W)
    (hbk:W.heap[gb]?=some (.cells cells 109 (0,0))∧W.heap[g4]?=some (.cells #[.slice none 0 0,.bool false] 102 (0,0))∧W.heap[g7]?=some (.cells #[.slice none 0 0,.bool false] 102 (0,0))) (hlo:gb < lo∧g4 < lo∧g7 < lo) (hR1:kimg.R 102 w10 w.heap.size (fun k=>lo ≤ k) v1 (rows ++ [row])) (hg:W.grownBy w10 (Value.slice A n cc).ownBlock) (hat:v1.ownBlock=(Value.slice A n cc).ownBlock ∨ ∃ b,v1.ownBlock=some b∧W.heap.size ≤ b) :
    kimg.R 102 w10 w.heap.size (fun k=>lo ≤ k) v1 (rows ++ [row])∧RepsI lo w10 v1.ownBlock (rows ++ [row]) (st ++ [x])∧(w10.heap[gb]?=some (.cells cells 109 (0,0))∧w10.heap[g4]?=some (.cells #[.slice none 0 0,.bool false] 102 (0,0))∧w10.heap[g7]?=some (.cells #[.slice none 0 0,.bool false] 102 (0,0)))∧Below w.heap.size w w10:=by
  have hne:∀ g,g < lo → some g ≠ (Value.slice A n cc).ownBlock:=fun g hg e=>by have:=hO.1 g e.symm;omega
  refine ⟨hR1,hP.push hL hg hat,⟨(hg.block gb (blk_lt hbk.1) (hne _ hlo.1)).trans hbk.1,(hg.block g4 (blk_lt hbk.2.1) (hne _ hlo.2.1)).trans hbk.2.1,(hg.block g7 (blk_lt hbk.2.2) (hne _ hlo.2.2)).trans hbk.2.2⟩,Below.grown hB hg hB.size (fun k hk=>Kd.R_base hO k hk)⟩
theorem img_new {lo gx:Nat} {wr wl W:World} {own:Option Nat} {A:Option Addr} {c:Nat} {x:Img} {ok:Nat → Prop} (hV:Kd.V k60 60 wl wr.heap.size ok (.slice A x.1.length c) x.1) (hok:∀ k,ok k → (lo ≤ k∧k < wr.heap.size∧some k ≠ own) ∨ gx < k) (hgx:wr.heap.size ≤ gx) (hlo:lo ≤ wr.heap.size) (hown:∀ k,own=some k → k < wr.heap.size)
    (hw:∀ k,k ≠ gx → k < wl.heap.size → W.heap[k]?=wl.heap[k]?) (hs:wl.heap.size ≤ W.heap.size):RepI lo W own [.slice A x.1.length c,.bool x.2] x:=by
  obtain ⟨A',c',e,hl,hF⟩:=hV
  injection e with e1 e2 e3
  subst e1;subst e3
  refine ⟨A,c,fun k=>ok k∧k < wl.heap.size,rfl,hl,Kd.F_step (F_bound' hF) (fun k hk hlt=>hw k ?_ hlt),fun k hk=>?_⟩
  · rcases hok k hk.1 with h|h
    · omega
    · omega
  · rcases hok k hk.1 with h|h
    · exact ⟨h.1,by have:=hk.2;omega,h.2.2⟩
    · refine ⟨by omega,by have:=hk.2;omega,fun e=>?_⟩
      have:=hown k e.symm
      omega
theorem set2_heap (w:World) (g k:Nat) (h:k ≠ g) (a b:Value):((w.setCell ⟨g,0,none⟩ a).setCell ⟨g,1,none⟩ b).heap[k]?=w.heap[k]?:=(Below.heap_setCell _ _ _ _ h).trans (Below.heap_setCell _ _ _ _ h)
theorem set2_size (w:World) (g:Nat) (a b:Value):((w.setCell ⟨g,0,none⟩ a).setCell ⟨g,1,none⟩ b).heap.size=w.heap.size:=by simp [World.setCell]
set_option maxHeartbeats 8000000 in
set_option maxRecDepth 100000 in
theorem image_run.calls (k:Nat) (code:ByteArray) (r:Option Img) (w:World) (hsz:code.size ≤ 1000) (h:runI k code.data.toList []=some r) :
    Calls Try.prog 72 #[.agg #[.func (.func 64) #[] #[],.func (.func 65) #[] #[],.func (.func 68) #[] #[],.func (.func 70) #[] #[]],.string code] w fun e w'=>ImgPost w w' r e:=by
  have HSZ:=Aside0.mk hsz
  have HRUN:=Aside0.mk h
  have hlen:code.size=code.data.toList.length:=rfl
  have HLEN:=Aside0.mk hlen
  have hu102:=Try.underlying102
  clear hsz h hlen
  go_enter Try.func72,Try.ntmps72
  go_wp2_with (first
    | ((with_reducible refine gate_dst (N:=2) rfl ?_);refine box_event ?hg (N:=2) ?hd (cs:=#[.func (.func 64) #[] #[],.func (.func 65) #[] #[],.func (.func 68) #[] #[],.func (.func 70) #[] #[]]) (t:=109) ?hr ?_;(case hd=>rfl);(case hg=>rfl);(case hr=>first|(go_simp;done)|(go_simp;rfl));intro gb hg w1 hbox hb;have BK:=Aside0.mk hbox;have HB1:=Aside0.mk hb;have HG:=Aside0.mk hg;clear hb hbox hg)
    | ((with_reducible refine gate_dst (N:=4) rfl ?_);refine box_event ?hg (N:=4) ?hd (cs:=#[.slice none 0 0,.bool false]) (t:=102) ?hr ?_;(case hd=>rfl);(case hg=>rfl);(case hr=>first|(go_simp;done)|(go_simp;rfl));intro g4 hg w2 hbox hb;have BK4:=Aside0.mk hbox;have BK2:=Aside0.mk (blk_below BK.out hb);have HB2:=Aside0.mk (below_step HB1.out hb);have HG4:=Aside0.mk hg;clear hb hbox hg)
    | ((with_reducible refine gate_dst (N:=7) rfl ?_);refine box_event ?hg (N:=7) ?hd (cs:=#[.slice none 0 0,.bool false]) (t:=102) ?hr ?_;(case hd=>rfl);(case hg=>rfl);(case hr=>first|(go_simp;done)|(go_simp;rfl));intro g7 hg w3 hbox hb;have HBS:=Aside0.mk (show w3.heap[gb]?=some (.cells #[.func (.func 64) #[] #[],.func (.func 65) #[] #[],.func (.func 68) #[] #[],.func (.func 70) #[] #[]] 109 (0,0))∧w3.heap[g4]?=some (.cells #[.slice none 0 0,.bool false] 102 (0,0))∧w3.heap[g7]?=some (.cells #[.slice none 0 0,.bool false] 102 (0,0)) from ⟨blk_below BK2.out hb,blk_below BK4.out hb,hbox⟩);have HB3:=Aside0.mk (below_step HB2.out hb);have HG7:=Aside0.mk hg;clear hb hbox hg)
    | fail)
  have HLO:=Aside0.mk (show gb < w3.heap.size∧g4 < w3.heap.size∧g7 < w3.heap.size from ⟨blk_lt HBS.out.1,blk_lt HBS.out.2.1,blk_lt HBS.out.2.2⟩)
  have HW3:=Aside0.mk HB3.out.size
  have HG40:=Aside0.mk (show w.heap.size ≤ g4 from by have:=HG4.out;have:=HB1.out.size;omega)
  go_loopw [6,16] (fun v6 v16 wr=>∃ (i:Nat) (bs:List (List Value)) (st:List Img),v16=.int .i64 (i:Int)∧Aside0 (i ≤ code.size)∧Aside0 (kimg.R 102 wr w.heap.size (fun k=>w3.heap.size ≤ k) v6 bs)∧Aside0 (RepsI w3.heap.size wr v6.ownBlock bs st)∧Aside0 (bs.length ≤ i)∧Aside0 (runI k (code.data.toList.drop i) st=some r)∧Aside0 (wr.heap[gb]?=some (.cells #[.func (.func 64) #[] #[],.func (.func 65) #[] #[],.func (.func 68) #[] #[],.func (.func 70) #[] #[]] 109 (0,0))∧wr.heap[g4]?=some (.cells #[.slice none 0 0,.bool false] 102 (0,0))∧wr.heap[g7]?=some (.cells #[.slice none 0 0,.bool false] 102 (0,0)))∧Aside0 (Below w.heap.size w wr)∧Aside0 (w3.heap.size ≤ wr.heap.size)) (fun _ v16 _=>code.size - (intOf v16).toNat)
  case atStart=>exact ⟨0,[],[],rfl,⟨Nat.zero_le _⟩,⟨Kd.R_nil _ _ _ _ _⟩,⟨⟨rfl,fun j b L h=>by simp at h⟩⟩,⟨Nat.le_refl _⟩,HRUN,HBS,HB3,⟨Nat.le_refl _⟩⟩
  case round =>
    clear BK BK2 BK4 HB1 HB2 HB3 HBS HG HG4 HG7 HRUN
    obtain ⟨i,bs,st,rfl,HI,HO,HRP,HBL,HR,HBK,HB,HLW⟩:=hrel
    have hz0:wr.cell? ⟨g4,0,none⟩=some (.slice none 0 0):=(blk_cell HBK.out.2.1 0).trans rfl
    have hz1:wr.cell? ⟨g4,1,none⟩=some (.bool false):=(blk_cell HBK.out.2.1 1).trans rfl
    have hzf0:wr.frozen? ⟨g4,0,none⟩=false:=blk_frozen HBK.out.2.1 0
    have hzf1:wr.frozen? ⟨g4,1,none⟩=false:=blk_frozen HBK.out.2.1 1
    have hy0:wr.cell? ⟨g7,0,none⟩=some (.slice none 0 0):=(blk_cell HBK.out.2.2 0).trans rfl
    have hy1:wr.cell? ⟨g7,1,none⟩=some (.bool false):=(blk_cell HBK.out.2.2 1).trans rfl
    by_cases hlt:i < code.size
    · have hd:decide ((i:Int) < (code.size:Int))=true:=decide_eq_true (by omega)
      have hd0:decide (i < code.size)=true:=decide_eq_true hlt
      have q0:((0:Int) ≤ (i:Int))=True:=eq_true (by omega)
      have q1:((i:Int) < (code.size:Int))=True:=eq_true (by omega)
      have HCD:=Aside0.mk (drop_cons code i hlt)
      obtain ⟨c,hc⟩:∃ c,c=code[i]'hlt:=⟨_,rfl⟩
      rw [← hc] at HCD
      have HRC:=Aside0.mk (Mach.run_cons _ _ _ _ (show runI k (c :: code.data.toList.drop (i + 1)) st=some r from by rw [← HCD.out];exact HR.out))
      have eg0:∀ args w,(callFunc 64 args).run Try.prog w=.ok (.enter 64 args) w:=enters_of Try.func64 (by kernel_rfl) rfl
      have eg1:∀ args w,(callFunc 65 args).run Try.prog w=.ok (.enter 65 args) w:=enters_of Try.func65 (by kernel_rfl) rfl
      have eg2:∀ args w,(callFunc 68 args).run Try.prog w=.ok (.enter 68 args) w:=enters_of Try.func68 (by kernel_rfl) rfl
      have eg3:∀ args w,(callFunc 70 args).run Try.prog w=.ok (.enter 70 args) w:=enters_of Try.func70 (by kernel_rfl) rfl
      obtain ⟨A,cc,rfl⟩:=Kd.R_slice HO.out
      have hcap:=(Kd.R_reads' HO.out).2.1
      have HOWN:Aside0 (∀ k,(Value.slice A bs.length cc).ownBlock=some k → k < wr.heap.size):=⟨fun k hk=>by obtain ⟨cells,hc⟩:=Kd.R_typed HO.out k hk;exact blk_lt hc⟩
      obtain ⟨hi0,hii,hiz⟩:=Option.map_eq_some_iff.1 info102m
      simp only [Prod.mk.injEq] at hiz
      have hb0:wr.cell? ⟨gb,0,none⟩=some (.func (.func 64) #[] #[]):=(blk_cell HBK.out.1 0).trans rfl
      have hb1:wr.cell? ⟨gb,1,none⟩=some (.func (.func 65) #[] #[]):=(blk_cell HBK.out.1 1).trans rfl
      have hb2:wr.cell? ⟨gb,2,none⟩=some (.func (.func 68) #[] #[]):=(blk_cell HBK.out.1 2).trans rfl
      have hb3:wr.cell? ⟨gb,3,none⟩=some (.func (.func 70) #[] #[]):=(blk_cell HBK.out.1 3).trans rfl
      have hww:wrap64 ((i:Int) + 1)=((i + 1:Nat):Int):=by have:=HSZ.out;unfold wrap64;omega
      have HW:=Aside0.mk hww
      have HLT:=Aside0.mk hlt
      clear hww HR
      rcases signs c with rfl|rfl|rfl|rfl|rfl|rfl|rfl|hoth
      · have hci:(code[i]'hlt).toNat=97:=by rw [← hc];rfl
        have HX1:=Aside0.mk (fun W=>IndexByte_one 42 97 97 97 (by decide) (by decide) (-1) (by decide) W)
        have HX2:=Aside0.mk (fun W=>IndexByte_one 46 97 97 97 (by decide) (by decide) (-1) (by decide) W)
        have HX3:=Aside0.mk (fun W=>IndexByte_one 43 97 97 97 (by decide) (by decide) (-1) (by decide) W)
        have hcut1:=cut_to (P:=Try.prog) 129 102 .i64 Try.underlying129 hii A bs.length cc (bs.length:Int) (by omega) (by omega) hcap
        have hcut2:=cut_from (P:=Try.prog) 129 102 .i64 Try.underlying129 hii 2 hiz.2.1 A bs.length cc (bs.length:Int) (by omega) (by omega)
        simp only [Int.toNat_natCast] at hcut1 hcut2
        generalize Value.slice (if cc=bs.length then A else A.map (·.add (bs.length * 2))) (bs.length - bs.length) (cc - bs.length)=vt at hcut2
        have hwn:wrap64 ((bs.length:Int) - 0)=(bs.length:Int):=by have:=HSZ.out;have:=HBL.out;unfold wrap64;omega
        have hwn2:wrap64 (bs.length:Int)=(bs.length:Int):=by have:=HSZ.out;have:=HBL.out;unfold wrap64;omega
        have hwk1:IntKind.i64.wrap ((bs.length:Int) - 0)=(bs.length:Int):=by have:=HSZ.out;have:=HBL.out;simp only [IntKind.wrap];simp [IntKind.signed,IntKind.bits];omega
        have hwk2:IntKind.i64.wrap (bs.length:Int)=(bs.length:Int):=by have:=HSZ.out;have:=HBL.out;simp only [IntKind.wrap];simp [IntKind.signed,IntKind.bits];omega
        have qn0:((0:Int) ≤ (bs.length:Int))=True:=eq_true (by omega)
        obtain ⟨q,hq,hqr⟩:=HRC.out
        rw [Mach.step_letter _ _ _ _ (i:=0) (by decide)] at hq
        obtain ⟨xl,hxl,rfl⟩:=Option.map_eq_some_iff.mp hq
        have HQR:=Aside0.mk hqr
        have HLS:Aside0 (bs.length ≤ i):=HBL
        have HLET:Aside0 (∀ W:World,_):=⟨fun W=>count_Image_1.calls (0) xl.1 xl.2 W hxl⟩
        clear hq hqr HRC hc hii hiz hcap
        go_wp2_with (first
          | (go_at_call 91;(with_reducible refine (HX1.out _).mono ?_);rintro e w9 ⟨rfl,rfl⟩)
          | (go_at_call 91;(with_reducible refine (HX2.out _).mono ?_);rintro e w9 ⟨rfl,rfl⟩)
          | (go_at_call 91;(with_reducible refine (HX3.out _).mono ?_);rintro e w9 ⟨rfl,rfl⟩))
        go_region_held3 (fun _=>True) (trivial) (first|fail|fail)
        clear hcut1 hcut2
        go_wp2_with (first
          | ((with_reducible refine gate_dst (N:=13) rfl ?_);refine box_event ?hg (N:=13) ?hd (cs:=#[.slice none 0 0,.bool false]) (t:=102) ?hr ?_;(case hd=>rfl);(case hg=>rfl);(case hr=>first|(go_simp;done)|(go_simp;rfl));intro gx hgx wx hbox hb;have HX:=Aside0.mk hbox;have HGX:Aside0 (w9.heap.size ≤ gx):=⟨by rw [hgx];first|exact Nat.le_refl _|simp⟩;have HBX:Aside0 (Below w9.heap.size w9 wx):=⟨below_step (by ((repeat (first|exact Below.refl _ _|apply Below.drew));done)) hb⟩;have hq0:wx.cell? ⟨gx,0,none⟩=some (.slice none 0 0):=(blk_cell hbox 0).trans rfl;have hq1:wx.cell? ⟨gx,1,none⟩=some (.bool false):=(blk_cell hbox 1).trans rfl;have hqf0:wx.frozen? ⟨gx,0,none⟩=false:=blk_frozen hbox 0;have hqf1:wx.frozen? ⟨gx,1,none⟩=false:=blk_frozen hbox 1;have hgb0:wx.cell? ⟨gb,0,none⟩=some (.func (.func 64) #[] #[]):=(HBX.out.cell (World.block_lt_of_cell? w9 _ hb0)).trans hb0;clear hb hbox hgx)
          | (go_at_call 64;(with_reducible refine (HLET.out _).mono ?_);rintro e wl ⟨vl,rfl,hVl,hbl0⟩;obtain ⟨Al,cl,rfl,_,_⟩:=id hVl;have hl0:wl.cell? ⟨gx,0,none⟩=some (.slice none 0 0):=(blk_cell (blk_below HX.out hbl0) 0).trans rfl;have hl1:wl.cell? ⟨gx,1,none⟩=some (.bool false):=(blk_cell (blk_below HX.out hbl0) 1).trans rfl;have hlf0:wl.frozen? ⟨gx,0,none⟩=false:=blk_frozen (blk_below HX.out hbl0) 0;have hlf1:wl.frozen? ⟨gx,1,none⟩=false:=blk_frozen (blk_below HX.out hbl0) 1;have HBWL:Aside0 (Below w9.heap.size w9 wl):=⟨below_step HBX.out hbl0⟩;have HVL:Aside0 (Kd.V k60 60 wl w9.heap.size (fun k=>wx.heap.size ≤ k) (.slice Al xl.1.length cl) xl.1):=⟨hVl⟩;have HOKL:Aside0 (∀ k,wx.heap.size ≤ k → (w3.heap.size ≤ k∧k < w9.heap.size∧some k ≠ (Value.slice A bs.length cc).ownBlock) ∨ gx < k):=⟨fun k hk=>.inr (by have:=blk_lt HX.out;omega)⟩;clear hVl hbl0)
          | ((with_reducible refine gate_dst (N:=98) rfl ?_);refine stopx_ ?_))
        delta StopX
        have HBS2:Aside0 (Below w9.heap.size w9 ((wl.setCell ⟨gx,0,none⟩ (.slice Al xl.1.length cl)).setCell ⟨gx,1,none⟩ (.bool xl.2))):=⟨below_set (below_set HBWL.out HGX.out) HGX.out⟩
        have HOL:Aside0 (kimg.R 102 ((wl.setCell ⟨gx,0,none⟩ (.slice Al xl.1.length cl)).setCell ⟨gx,1,none⟩ (.bool xl.2)) w.heap.size (fun k=>w3.heap.size ≤ k) (.slice A bs.length cc) bs):=⟨Kd.R_below HO.out HBS2.out⟩
        have HPL:Aside0 (RepsI w3.heap.size ((wl.setCell ⟨gx,0,none⟩ (.slice Al xl.1.length cl)).setCell ⟨gx,1,none⟩ (.bool xl.2)) (Value.slice A bs.length cc).ownBlock bs st):=⟨RepsI.below HRP.out HBS2.out⟩
        have HRL:Aside0 (RepI w3.heap.size ((wl.setCell ⟨gx,0,none⟩ (.slice Al xl.1.length cl)).setCell ⟨gx,1,none⟩ (.bool xl.2)) (Value.slice A bs.length cc).ownBlock [.slice Al xl.1.length cl,.bool xl.2] xl):=⟨img_new (wr:=w9) (gx:=gx) HVL.out HOKL.out HGX.out HLW.out HOWN.out (fun k hk _=>set2_heap _ _ _ hk _ _) (Nat.le_of_eq (set2_size _ _ _ _).symm)⟩
        have HKL:=Aside0.mk (And.intro (blk_below HBK.out.1 HBS2.out) (And.intro (blk_below HBK.out.2.1 HBS2.out) (blk_below HBK.out.2.2 HBS2.out)))
        have HBL2:=Aside0.mk (below_step HB.out HBS2.out)
        go_wp2_with (first
          | ((with_reducible refine gate_builtin (b:=.append) (xs:=#[.tmp 97,.tmp 99]) rfl ?_);at_builtin;refine Kd.R_append kimg (w0:=w) w.heap.size rfl (.tmp 97) (.tmp 99) 129 102 (.agg #[.slice none 0 0,.bool false]) 32 rfl Try.underlying129 info102m rfl (by decide) (by omega) (.slice A bs.length cc) bs [.slice Al xl.1.length cl,.bool xl.2] [.slice Al xl.1.length cl,.bool xl.2] (fun k=>w3.heap.size ≤ k) (fun _=>False) rfl (by rw [set2_size];rfl) ⟨rfl,rfl,fun u hu=>by (simp at hu;rcases hu with rfl|rfl <;> rfl)⟩ (fun _ h=>h.elim) (fun k hk=>by have:=HLW.out;have:=HBWL.out.size;simp [World.setCell] at hk;omega) HOL.out HBL2.out (below_size HBL2.out) (by have:=HLS.out;have:=HSZ.out;have:=HI.out;omega) ?_;intro v1 w10 hR1 hb1 hg1 hat1;have HALL:=Aside0.mk (img_push HOL.out HPL.out HRL.out HBL2.out HKL.out HLO.out hR1 hg1 hat1);have HSZ10:=Aside0.mk hg1.size;clear hR1 hb1 hg1 hat1))
        rcases HQR.out with ⟨h,_⟩|⟨st',h1,h2⟩
        · cases h
        obtain rfl:=Option.some.inj h1
        have HRUN2:=Aside0.mk h2
        clear h1 h2
        go_roundw
        case rel=>exact ⟨i + 1,bs ++ [[.slice Al xl.1.length cl,.bool xl.2]],st ++ [xl],congrArg _ HW.out,⟨HLT.out⟩,⟨HALL.out.1⟩,⟨HALL.out.2.1⟩,⟨by rw [List.length_append];have:=HBL.out;simp;omega⟩,HRUN2,⟨HALL.out.2.2.1⟩,⟨HALL.out.2.2.2⟩,⟨by have:=HSZ10.out;rw [set2_size] at this;have:=HBWL.out.size;have:=HLW.out;omega⟩⟩
        case measure=>rw [HW.out];simp only [intOf];have:=HLT.out;omega
      · have hci:(code[i]'hlt).toNat=98:=by rw [← hc];rfl
        have HX1:=Aside0.mk (fun W=>IndexByte_one 42 98 98 98 (by decide) (by decide) (-1) (by decide) W)
        have HX2:=Aside0.mk (fun W=>IndexByte_one 46 98 98 98 (by decide) (by decide) (-1) (by decide) W)
        have HX3:=Aside0.mk (fun W=>IndexByte_one 43 98 98 98 (by decide) (by decide) (-1) (by decide) W)
        have hcut1:=cut_to (P:=Try.prog) 129 102 .i64 Try.underlying129 hii A bs.length cc (bs.length:Int) (by omega) (by omega) hcap
        have hcut2:=cut_from (P:=Try.prog) 129 102 .i64 Try.underlying129 hii 2 hiz.2.1 A bs.length cc (bs.length:Int) (by omega) (by omega)
        simp only [Int.toNat_natCast] at hcut1 hcut2
        generalize Value.slice (if cc=bs.length then A else A.map (·.add (bs.length * 2))) (bs.length - bs.length) (cc - bs.length)=vt at hcut2
        have hwn:wrap64 ((bs.length:Int) - 0)=(bs.length:Int):=by have:=HSZ.out;have:=HBL.out;unfold wrap64;omega
        have hwn2:wrap64 (bs.length:Int)=(bs.length:Int):=by have:=HSZ.out;have:=HBL.out;unfold wrap64;omega
        have hwk1:IntKind.i64.wrap ((bs.length:Int) - 0)=(bs.length:Int):=by have:=HSZ.out;have:=HBL.out;simp only [IntKind.wrap];simp [IntKind.signed,IntKind.bits];omega
        have hwk2:IntKind.i64.wrap (bs.length:Int)=(bs.length:Int):=by have:=HSZ.out;have:=HBL.out;simp only [IntKind.wrap];simp [IntKind.signed,IntKind.bits];omega
        have qn0:((0:Int) ≤ (bs.length:Int))=True:=eq_true (by omega)
        obtain ⟨q,hq,hqr⟩:=HRC.out
        rw [Mach.step_letter _ _ _ _ (i:=1) (by decide)] at hq
        obtain ⟨xl,hxl,rfl⟩:=Option.map_eq_some_iff.mp hq
        have HQR:=Aside0.mk hqr
        have HLS:Aside0 (bs.length ≤ i):=HBL
        have HLET:Aside0 (∀ W:World,_):=⟨fun W=>count_Image_1.calls (1) xl.1 xl.2 W hxl⟩
        clear hq hqr HRC hc hii hiz hcap
        go_wp2_with (first
          | (go_at_call 91;(with_reducible refine (HX1.out _).mono ?_);rintro e w9 ⟨rfl,rfl⟩)
          | (go_at_call 91;(with_reducible refine (HX2.out _).mono ?_);rintro e w9 ⟨rfl,rfl⟩)
          | (go_at_call 91;(with_reducible refine (HX3.out _).mono ?_);rintro e w9 ⟨rfl,rfl⟩))
        go_region_held3 (fun _=>True) (trivial) (first|fail|fail)
        clear hcut1 hcut2
        go_wp2_with (first
          | ((with_reducible refine gate_dst (N:=13) rfl ?_);refine box_event ?hg (N:=13) ?hd (cs:=#[.slice none 0 0,.bool false]) (t:=102) ?hr ?_;(case hd=>rfl);(case hg=>rfl);(case hr=>first|(go_simp;done)|(go_simp;rfl));intro gx hgx wx hbox hb;have HX:=Aside0.mk hbox;have HGX:Aside0 (w9.heap.size ≤ gx):=⟨by rw [hgx];first|exact Nat.le_refl _|simp⟩;have HBX:Aside0 (Below w9.heap.size w9 wx):=⟨below_step (by ((repeat (first|exact Below.refl _ _|apply Below.drew));done)) hb⟩;have hq0:wx.cell? ⟨gx,0,none⟩=some (.slice none 0 0):=(blk_cell hbox 0).trans rfl;have hq1:wx.cell? ⟨gx,1,none⟩=some (.bool false):=(blk_cell hbox 1).trans rfl;have hqf0:wx.frozen? ⟨gx,0,none⟩=false:=blk_frozen hbox 0;have hqf1:wx.frozen? ⟨gx,1,none⟩=false:=blk_frozen hbox 1;have hgb0:wx.cell? ⟨gb,0,none⟩=some (.func (.func 64) #[] #[]):=(HBX.out.cell (World.block_lt_of_cell? w9 _ hb0)).trans hb0;clear hb hbox hgx)
          | (go_at_call 64;(with_reducible refine (HLET.out _).mono ?_);rintro e wl ⟨vl,rfl,hVl,hbl0⟩;obtain ⟨Al,cl,rfl,_,_⟩:=id hVl;have hl0:wl.cell? ⟨gx,0,none⟩=some (.slice none 0 0):=(blk_cell (blk_below HX.out hbl0) 0).trans rfl;have hl1:wl.cell? ⟨gx,1,none⟩=some (.bool false):=(blk_cell (blk_below HX.out hbl0) 1).trans rfl;have hlf0:wl.frozen? ⟨gx,0,none⟩=false:=blk_frozen (blk_below HX.out hbl0) 0;have hlf1:wl.frozen? ⟨gx,1,none⟩=false:=blk_frozen (blk_below HX.out hbl0) 1;have HBWL:Aside0 (Below w9.heap.size w9 wl):=⟨below_step HBX.out hbl0⟩;have HVL:Aside0 (Kd.V k60 60 wl w9.heap.size (fun k=>wx.heap.size ≤ k) (.slice Al xl.1.length cl) xl.1):=⟨hVl⟩;have HOKL:Aside0 (∀ k,wx.heap.size ≤ k → (w3.heap.size ≤ k∧k < w9.heap.size∧some k ≠ (Value.slice A bs.length cc).ownBlock) ∨ gx < k):=⟨fun k hk=>.inr (by have:=blk_lt HX.out;omega)⟩;clear hVl hbl0)
          | ((with_reducible refine gate_dst (N:=98) rfl ?_);refine stopx_ ?_))
        delta StopX
        have HBS2:Aside0 (Below w9.heap.size w9 ((wl.setCell ⟨gx,0,none⟩ (.slice Al xl.1.length cl)).setCell ⟨gx,1,none⟩ (.bool xl.2))):=⟨below_set (below_set HBWL.out HGX.out) HGX.out⟩
        have HOL:Aside0 (kimg.R 102 ((wl.setCell ⟨gx,0,none⟩ (.slice Al xl.1.length cl)).setCell ⟨gx,1,none⟩ (.bool xl.2)) w.heap.size (fun k=>w3.heap.size ≤ k) (.slice A bs.length cc) bs):=⟨Kd.R_below HO.out HBS2.out⟩
        have HPL:Aside0 (RepsI w3.heap.size ((wl.setCell ⟨gx,0,none⟩ (.slice Al xl.1.length cl)).setCell ⟨gx,1,none⟩ (.bool xl.2)) (Value.slice A bs.length cc).ownBlock bs st):=⟨RepsI.below HRP.out HBS2.out⟩
        have HRL:Aside0 (RepI w3.heap.size ((wl.setCell ⟨gx,0,none⟩ (.slice Al xl.1.length cl)).setCell ⟨gx,1,none⟩ (.bool xl.2)) (Value.slice A bs.length cc).ownBlock [.slice Al xl.1.length cl,.bool xl.2] xl):=⟨img_new (wr:=w9) (gx:=gx) HVL.out HOKL.out HGX.out HLW.out HOWN.out (fun k hk _=>set2_heap _ _ _ hk _ _) (Nat.le_of_eq (set2_size _ _ _ _).symm)⟩
        have HKL:=Aside0.mk (And.intro (blk_below HBK.out.1 HBS2.out) (And.intro (blk_below HBK.out.2.1 HBS2.out) (blk_below HBK.out.2.2 HBS2.out)))
        have HBL2:=Aside0.mk (below_step HB.out HBS2.out)
        go_wp2_with (first
          | ((with_reducible refine gate_builtin (b:=.append) (xs:=#[.tmp 97,.tmp 99]) rfl ?_);at_builtin;refine Kd.R_append kimg (w0:=w) w.heap.size rfl (.tmp 97) (.tmp 99) 129 102 (.agg #[.slice none 0 0,.bool false]) 32 rfl Try.underlying129 info102m rfl (by decide) (by omega) (.slice A bs.length cc) bs [.slice Al xl.1.length cl,.bool xl.2] [.slice Al xl.1.length cl,.bool xl.2] (fun k=>w3.heap.size ≤ k) (fun _=>False) rfl (by rw [set2_size];rfl) ⟨rfl,rfl,fun u hu=>by (simp at hu;rcases hu with rfl|rfl <;> rfl)⟩ (fun _ h=>h.elim) (fun k hk=>by have:=HLW.out;have:=HBWL.out.size;simp [World.setCell] at hk;omega) HOL.out HBL2.out (below_size HBL2.out) (by have:=HLS.out;have:=HSZ.out;have:=HI.out;omega) ?_;intro v1 w10 hR1 hb1 hg1 hat1;have HALL:=Aside0.mk (img_push HOL.out HPL.out HRL.out HBL2.out HKL.out HLO.out hR1 hg1 hat1);have HSZ10:=Aside0.mk hg1.size;clear hR1 hb1 hg1 hat1))
        rcases HQR.out with ⟨h,_⟩|⟨st',h1,h2⟩
        · cases h
        obtain rfl:=Option.some.inj h1
        have HRUN2:=Aside0.mk h2
        clear h1 h2
        go_roundw
        case rel=>exact ⟨i + 1,bs ++ [[.slice Al xl.1.length cl,.bool xl.2]],st ++ [xl],congrArg _ HW.out,⟨HLT.out⟩,⟨HALL.out.1⟩,⟨HALL.out.2.1⟩,⟨by rw [List.length_append];have:=HBL.out;simp;omega⟩,HRUN2,⟨HALL.out.2.2.1⟩,⟨HALL.out.2.2.2⟩,⟨by have:=HSZ10.out;rw [set2_size] at this;have:=HBWL.out.size;have:=HLW.out;omega⟩⟩
        case measure=>rw [HW.out];simp only [intOf];have:=HLT.out;omega
      · have hci:(code[i]'hlt).toNat=99:=by rw [← hc];rfl
        have HX1:=Aside0.mk (fun W=>IndexByte_one 42 99 99 99 (by decide) (by decide) (-1) (by decide) W)
        have HX2:=Aside0.mk (fun W=>IndexByte_one 46 99 99 99 (by decide) (by decide) (-1) (by decide) W)
        have HX3:=Aside0.mk (fun W=>IndexByte_one 43 99 99 99 (by decide) (by decide) (-1) (by decide) W)
        have hcut1:=cut_to (P:=Try.prog) 129 102 .i64 Try.underlying129 hii A bs.length cc (bs.length:Int) (by omega) (by omega) hcap
        have hcut2:=cut_from (P:=Try.prog) 129 102 .i64 Try.underlying129 hii 2 hiz.2.1 A bs.length cc (bs.length:Int) (by omega) (by omega)
        simp only [Int.toNat_natCast] at hcut1 hcut2
        generalize Value.slice (if cc=bs.length then A else A.map (·.add (bs.length * 2))) (bs.length - bs.length) (cc - bs.length)=vt at hcut2
        have hwn:wrap64 ((bs.length:Int) - 0)=(bs.length:Int):=by have:=HSZ.out;have:=HBL.out;unfold wrap64;omega
        have hwn2:wrap64 (bs.length:Int)=(bs.length:Int):=by have:=HSZ.out;have:=HBL.out;unfold wrap64;omega
        have hwk1:IntKind.i64.wrap ((bs.length:Int) - 0)=(bs.length:Int):=by have:=HSZ.out;have:=HBL.out;simp only [IntKind.wrap];simp [IntKind.signed,IntKind.bits];omega
        have hwk2:IntKind.i64.wrap (bs.length:Int)=(bs.length:Int):=by have:=HSZ.out;have:=HBL.out;simp only [IntKind.wrap];simp [IntKind.signed,IntKind.bits];omega
        have qn0:((0:Int) ≤ (bs.length:Int))=True:=eq_true (by omega)
        obtain ⟨q,hq,hqr⟩:=HRC.out
        rw [Mach.step_letter _ _ _ _ (i:=2) (by decide)] at hq
        obtain ⟨xl,hxl,rfl⟩:=Option.map_eq_some_iff.mp hq
        have HQR:=Aside0.mk hqr
        have HLS:Aside0 (bs.length ≤ i):=HBL
        have HLET:Aside0 (∀ W:World,_):=⟨fun W=>count_Image_1.calls (2) xl.1 xl.2 W hxl⟩
        clear hq hqr HRC hc hii hiz hcap
        go_wp2_with (first
          | (go_at_call 91;(with_reducible refine (HX1.out _).mono ?_);rintro e w9 ⟨rfl,rfl⟩)
          | (go_at_call 91;(with_reducible refine (HX2.out _).mono ?_);rintro e w9 ⟨rfl,rfl⟩)
          | (go_at_call 91;(with_reducible refine (HX3.out _).mono ?_);rintro e w9 ⟨rfl,rfl⟩))
        go_region_held3 (fun _=>True) (trivial) (first|fail|fail)
        clear hcut1 hcut2
        go_wp2_with (first
          | ((with_reducible refine gate_dst (N:=13) rfl ?_);refine box_event ?hg (N:=13) ?hd (cs:=#[.slice none 0 0,.bool false]) (t:=102) ?hr ?_;(case hd=>rfl);(case hg=>rfl);(case hr=>first|(go_simp;done)|(go_simp;rfl));intro gx hgx wx hbox hb;have HX:=Aside0.mk hbox;have HGX:Aside0 (w9.heap.size ≤ gx):=⟨by rw [hgx];first|exact Nat.le_refl _|simp⟩;have HBX:Aside0 (Below w9.heap.size w9 wx):=⟨below_step (by ((repeat (first|exact Below.refl _ _|apply Below.drew));done)) hb⟩;have hq0:wx.cell? ⟨gx,0,none⟩=some (.slice none 0 0):=(blk_cell hbox 0).trans rfl;have hq1:wx.cell? ⟨gx,1,none⟩=some (.bool false):=(blk_cell hbox 1).trans rfl;have hqf0:wx.frozen? ⟨gx,0,none⟩=false:=blk_frozen hbox 0;have hqf1:wx.frozen? ⟨gx,1,none⟩=false:=blk_frozen hbox 1;have hgb0:wx.cell? ⟨gb,0,none⟩=some (.func (.func 64) #[] #[]):=(HBX.out.cell (World.block_lt_of_cell? w9 _ hb0)).trans hb0;clear hb hbox hgx)
          | (go_at_call 64;(with_reducible refine (HLET.out _).mono ?_);rintro e wl ⟨vl,rfl,hVl,hbl0⟩;obtain ⟨Al,cl,rfl,_,_⟩:=id hVl;have hl0:wl.cell? ⟨gx,0,none⟩=some (.slice none 0 0):=(blk_cell (blk_below HX.out hbl0) 0).trans rfl;have hl1:wl.cell? ⟨gx,1,none⟩=some (.bool false):=(blk_cell (blk_below HX.out hbl0) 1).trans rfl;have hlf0:wl.frozen? ⟨gx,0,none⟩=false:=blk_frozen (blk_below HX.out hbl0) 0;have hlf1:wl.frozen? ⟨gx,1,none⟩=false:=blk_frozen (blk_below HX.out hbl0) 1;have HBWL:Aside0 (Below w9.heap.size w9 wl):=⟨below_step HBX.out hbl0⟩;have HVL:Aside0 (Kd.V k60 60 wl w9.heap.size (fun k=>wx.heap.size ≤ k) (.slice Al xl.1.length cl) xl.1):=⟨hVl⟩;have HOKL:Aside0 (∀ k,wx.heap.size ≤ k → (w3.heap.size ≤ k∧k < w9.heap.size∧some k ≠ (Value.slice A bs.length cc).ownBlock) ∨ gx < k):=⟨fun k hk=>.inr (by have:=blk_lt HX.out;omega)⟩;clear hVl hbl0)
          | ((with_reducible refine gate_dst (N:=98) rfl ?_);refine stopx_ ?_))
        delta StopX
        have HBS2:Aside0 (Below w9.heap.size w9 ((wl.setCell ⟨gx,0,none⟩ (.slice Al xl.1.length cl)).setCell ⟨gx,1,none⟩ (.bool xl.2))):=⟨below_set (below_set HBWL.out HGX.out) HGX.out⟩
        have HOL:Aside0 (kimg.R 102 ((wl.setCell ⟨gx,0,none⟩ (.slice Al xl.1.length cl)).setCell ⟨gx,1,none⟩ (.bool xl.2)) w.heap.size (fun k=>w3.heap.size ≤ k) (.slice A bs.length cc) bs):=⟨Kd.R_below HO.out HBS2.out⟩
        have HPL:Aside0 (RepsI w3.heap.size ((wl.setCell ⟨gx,0,none⟩ (.slice Al xl.1.length cl)).setCell ⟨gx,1,none⟩ (.bool xl.2)) (Value.slice A bs.length cc).ownBlock bs st):=⟨RepsI.below HRP.out HBS2.out⟩
        have HRL:Aside0 (RepI w3.heap.size ((wl.setCell ⟨gx,0,none⟩ (.slice Al xl.1.length cl)).setCell ⟨gx,1,none⟩ (.bool xl.2)) (Value.slice A bs.length cc).ownBlock [.slice Al xl.1.length cl,.bool xl.2] xl):=⟨img_new (wr:=w9) (gx:=gx) HVL.out HOKL.out HGX.out HLW.out HOWN.out (fun k hk _=>set2_heap _ _ _ hk _ _) (Nat.le_of_eq (set2_size _ _ _ _).symm)⟩
        have HKL:=Aside0.mk (And.intro (blk_below HBK.out.1 HBS2.out) (And.intro (blk_below HBK.out.2.1 HBS2.out) (blk_below HBK.out.2.2 HBS2.out)))
        have HBL2:=Aside0.mk (below_step HB.out HBS2.out)
        go_wp2_with (first
          | ((with_reducible refine gate_builtin (b:=.append) (xs:=#[.tmp 97,.tmp 99]) rfl ?_);at_builtin;refine Kd.R_append kimg (w0:=w) w.heap.size rfl (.tmp 97) (.tmp 99) 129 102 (.agg #[.slice none 0 0,.bool false]) 32 rfl Try.underlying129 info102m rfl (by decide) (by omega) (.slice A bs.length cc) bs [.slice Al xl.1.length cl,.bool xl.2] [.slice Al xl.1.length cl,.bool xl.2] (fun k=>w3.heap.size ≤ k) (fun _=>False) rfl (by rw [set2_size];rfl) ⟨rfl,rfl,fun u hu=>by (simp at hu;rcases hu with rfl|rfl <;> rfl)⟩ (fun _ h=>h.elim) (fun k hk=>by have:=HLW.out;have:=HBWL.out.size;simp [World.setCell] at hk;omega) HOL.out HBL2.out (below_size HBL2.out) (by have:=HLS.out;have:=HSZ.out;have:=HI.out;omega) ?_;intro v1 w10 hR1 hb1 hg1 hat1;have HALL:=Aside0.mk (img_push HOL.out HPL.out HRL.out HBL2.out HKL.out HLO.out hR1 hg1 hat1);have HSZ10:=Aside0.mk hg1.size;clear hR1 hb1 hg1 hat1))
        rcases HQR.out with ⟨h,_⟩|⟨st',h1,h2⟩
        · cases h
        obtain rfl:=Option.some.inj h1
        have HRUN2:=Aside0.mk h2
        clear h1 h2
        go_roundw
        case rel=>exact ⟨i + 1,bs ++ [[.slice Al xl.1.length cl,.bool xl.2]],st ++ [xl],congrArg _ HW.out,⟨HLT.out⟩,⟨HALL.out.1⟩,⟨HALL.out.2.1⟩,⟨by rw [List.length_append];have:=HBL.out;simp;omega⟩,HRUN2,⟨HALL.out.2.2.1⟩,⟨HALL.out.2.2.2⟩,⟨by have:=HSZ10.out;rw [set2_size] at this;have:=HBWL.out.size;have:=HLW.out;omega⟩⟩
        case measure=>rw [HW.out];simp only [intOf];have:=HLT.out;omega
      · have hci:(code[i]'hlt).toNat=101:=by rw [← hc];rfl
        have HX1:=Aside0.mk (fun W=>IndexByte_one 42 101 101 101 (by decide) (by decide) (-1) (by decide) W)
        have HX2:=Aside0.mk (fun W=>IndexByte_one 46 101 101 101 (by decide) (by decide) (-1) (by decide) W)
        have HX3:=Aside0.mk (fun W=>IndexByte_one 43 101 101 101 (by decide) (by decide) (-1) (by decide) W)
        have hcut1:=cut_to (P:=Try.prog) 129 102 .i64 Try.underlying129 hii A bs.length cc (bs.length:Int) (by omega) (by omega) hcap
        have hcut2:=cut_from (P:=Try.prog) 129 102 .i64 Try.underlying129 hii 2 hiz.2.1 A bs.length cc (bs.length:Int) (by omega) (by omega)
        simp only [Int.toNat_natCast] at hcut1 hcut2
        generalize Value.slice (if cc=bs.length then A else A.map (·.add (bs.length * 2))) (bs.length - bs.length) (cc - bs.length)=vt at hcut2
        have hwn:wrap64 ((bs.length:Int) - 0)=(bs.length:Int):=by have:=HSZ.out;have:=HBL.out;unfold wrap64;omega
        have hwn2:wrap64 (bs.length:Int)=(bs.length:Int):=by have:=HSZ.out;have:=HBL.out;unfold wrap64;omega
        have hwk1:IntKind.i64.wrap ((bs.length:Int) - 0)=(bs.length:Int):=by have:=HSZ.out;have:=HBL.out;simp only [IntKind.wrap];simp [IntKind.signed,IntKind.bits];omega
        have hwk2:IntKind.i64.wrap (bs.length:Int)=(bs.length:Int):=by have:=HSZ.out;have:=HBL.out;simp only [IntKind.wrap];simp [IntKind.signed,IntKind.bits];omega
        have qn0:((0:Int) ≤ (bs.length:Int))=True:=eq_true (by omega)
        obtain ⟨q,hq,hqr⟩:=HRC.out
        rw [Mach.step_letter _ _ _ _ (i:=-1) (by decide)] at hq
        obtain ⟨xl,hxl,rfl⟩:=Option.map_eq_some_iff.mp hq
        have HQR:=Aside0.mk hqr
        have HLS:Aside0 (bs.length ≤ i):=HBL
        have HLET:Aside0 (∀ W:World,_):=⟨fun W=>count_Image_1.calls (-1) xl.1 xl.2 W hxl⟩
        clear hq hqr HRC hc hii hiz hcap
        go_wp2_with (first
          | (go_at_call 91;(with_reducible refine (HX1.out _).mono ?_);rintro e w9 ⟨rfl,rfl⟩)
          | (go_at_call 91;(with_reducible refine (HX2.out _).mono ?_);rintro e w9 ⟨rfl,rfl⟩)
          | (go_at_call 91;(with_reducible refine (HX3.out _).mono ?_);rintro e w9 ⟨rfl,rfl⟩))
        go_region_held3 (fun _=>True) (trivial) (first|fail|fail)
        clear hcut1 hcut2
        go_wp2_with (first
          | ((with_reducible refine gate_dst (N:=13) rfl ?_);refine box_event ?hg (N:=13) ?hd (cs:=#[.slice none 0 0,.bool false]) (t:=102) ?hr ?_;(case hd=>rfl);(case hg=>rfl);(case hr=>first|(go_simp;done)|(go_simp;rfl));intro gx hgx wx hbox hb;have HX:=Aside0.mk hbox;have HGX:Aside0 (w9.heap.size ≤ gx):=⟨by rw [hgx];first|exact Nat.le_refl _|simp⟩;have HBX:Aside0 (Below w9.heap.size w9 wx):=⟨below_step (by ((repeat (first|exact Below.refl _ _|apply Below.drew));done)) hb⟩;have hq0:wx.cell? ⟨gx,0,none⟩=some (.slice none 0 0):=(blk_cell hbox 0).trans rfl;have hq1:wx.cell? ⟨gx,1,none⟩=some (.bool false):=(blk_cell hbox 1).trans rfl;have hqf0:wx.frozen? ⟨gx,0,none⟩=false:=blk_frozen hbox 0;have hqf1:wx.frozen? ⟨gx,1,none⟩=false:=blk_frozen hbox 1;have hgb0:wx.cell? ⟨gb,0,none⟩=some (.func (.func 64) #[] #[]):=(HBX.out.cell (World.block_lt_of_cell? w9 _ hb0)).trans hb0;clear hb hbox hgx)
          | (go_at_call 64;(with_reducible refine (HLET.out _).mono ?_);rintro e wl ⟨vl,rfl,hVl,hbl0⟩;obtain ⟨Al,cl,rfl,_,_⟩:=id hVl;have hl0:wl.cell? ⟨gx,0,none⟩=some (.slice none 0 0):=(blk_cell (blk_below HX.out hbl0) 0).trans rfl;have hl1:wl.cell? ⟨gx,1,none⟩=some (.bool false):=(blk_cell (blk_below HX.out hbl0) 1).trans rfl;have hlf0:wl.frozen? ⟨gx,0,none⟩=false:=blk_frozen (blk_below HX.out hbl0) 0;have hlf1:wl.frozen? ⟨gx,1,none⟩=false:=blk_frozen (blk_below HX.out hbl0) 1;have HBWL:Aside0 (Below w9.heap.size w9 wl):=⟨below_step HBX.out hbl0⟩;have HVL:Aside0 (Kd.V k60 60 wl w9.heap.size (fun k=>wx.heap.size ≤ k) (.slice Al xl.1.length cl) xl.1):=⟨hVl⟩;have HOKL:Aside0 (∀ k,wx.heap.size ≤ k → (w3.heap.size ≤ k∧k < w9.heap.size∧some k ≠ (Value.slice A bs.length cc).ownBlock) ∨ gx < k):=⟨fun k hk=>.inr (by have:=blk_lt HX.out;omega)⟩;clear hVl hbl0)
          | ((with_reducible refine gate_dst (N:=98) rfl ?_);refine stopx_ ?_))
        delta StopX
        have HBS2:Aside0 (Below w9.heap.size w9 ((wl.setCell ⟨gx,0,none⟩ (.slice Al xl.1.length cl)).setCell ⟨gx,1,none⟩ (.bool xl.2))):=⟨below_set (below_set HBWL.out HGX.out) HGX.out⟩
        have HOL:Aside0 (kimg.R 102 ((wl.setCell ⟨gx,0,none⟩ (.slice Al xl.1.length cl)).setCell ⟨gx,1,none⟩ (.bool xl.2)) w.heap.size (fun k=>w3.heap.size ≤ k) (.slice A bs.length cc) bs):=⟨Kd.R_below HO.out HBS2.out⟩
        have HPL:Aside0 (RepsI w3.heap.size ((wl.setCell ⟨gx,0,none⟩ (.slice Al xl.1.length cl)).setCell ⟨gx,1,none⟩ (.bool xl.2)) (Value.slice A bs.length cc).ownBlock bs st):=⟨RepsI.below HRP.out HBS2.out⟩
        have HRL:Aside0 (RepI w3.heap.size ((wl.setCell ⟨gx,0,none⟩ (.slice Al xl.1.length cl)).setCell ⟨gx,1,none⟩ (.bool xl.2)) (Value.slice A bs.length cc).ownBlock [.slice Al xl.1.length cl,.bool xl.2] xl):=⟨img_new (wr:=w9) (gx:=gx) HVL.out HOKL.out HGX.out HLW.out HOWN.out (fun k hk _=>set2_heap _ _ _ hk _ _) (Nat.le_of_eq (set2_size _ _ _ _).symm)⟩
        have HKL:=Aside0.mk (And.intro (blk_below HBK.out.1 HBS2.out) (And.intro (blk_below HBK.out.2.1 HBS2.out) (blk_below HBK.out.2.2 HBS2.out)))
        have HBL2:=Aside0.mk (below_step HB.out HBS2.out)
        go_wp2_with (first
          | ((with_reducible refine gate_builtin (b:=.append) (xs:=#[.tmp 97,.tmp 99]) rfl ?_);at_builtin;refine Kd.R_append kimg (w0:=w) w.heap.size rfl (.tmp 97) (.tmp 99) 129 102 (.agg #[.slice none 0 0,.bool false]) 32 rfl Try.underlying129 info102m rfl (by decide) (by omega) (.slice A bs.length cc) bs [.slice Al xl.1.length cl,.bool xl.2] [.slice Al xl.1.length cl,.bool xl.2] (fun k=>w3.heap.size ≤ k) (fun _=>False) rfl (by rw [set2_size];rfl) ⟨rfl,rfl,fun u hu=>by (simp at hu;rcases hu with rfl|rfl <;> rfl)⟩ (fun _ h=>h.elim) (fun k hk=>by have:=HLW.out;have:=HBWL.out.size;simp [World.setCell] at hk;omega) HOL.out HBL2.out (below_size HBL2.out) (by have:=HLS.out;have:=HSZ.out;have:=HI.out;omega) ?_;intro v1 w10 hR1 hb1 hg1 hat1;have HALL:=Aside0.mk (img_push HOL.out HPL.out HRL.out HBL2.out HKL.out HLO.out hR1 hg1 hat1);have HSZ10:=Aside0.mk hg1.size;clear hR1 hb1 hg1 hat1))
        rcases HQR.out with ⟨h,_⟩|⟨st',h1,h2⟩
        · cases h
        obtain rfl:=Option.some.inj h1
        have HRUN2:=Aside0.mk h2
        clear h1 h2
        go_roundw
        case rel=>exact ⟨i + 1,bs ++ [[.slice Al xl.1.length cl,.bool xl.2]],st ++ [xl],congrArg _ HW.out,⟨HLT.out⟩,⟨HALL.out.1⟩,⟨HALL.out.2.1⟩,⟨by rw [List.length_append];have:=HBL.out;simp;omega⟩,HRUN2,⟨HALL.out.2.2.1⟩,⟨HALL.out.2.2.2⟩,⟨by have:=HSZ10.out;rw [set2_size] at this;have:=HBWL.out.size;have:=HLW.out;omega⟩⟩
        case measure=>rw [HW.out];simp only [intOf];have:=HLT.out;omega
      · by_cases hen:2 ≤ st.length
        · have hci:(code[i]'hlt).toNat=46:=by rw [← hc];rfl
          have HX1:=Aside0.mk (fun W=>IndexByte_one 42 46 46 46 (by decide) (by decide) (-1) (by decide) W)
          have HX2:=Aside0.mk (fun W=>IndexByte_one 46 46 46 46 (by decide) (by decide) 0 (by decide) W)
          have HX3:=Aside0.mk (fun W=>IndexByte_one 43 46 46 46 (by decide) (by decide) (-1) (by decide) W)
          obtain ⟨s,a,b,hbs⟩:=Mach.last_two (st:=bs) (by have:=HRP.out.1;omega)
          obtain ⟨t,X,Y,hstt⟩:=Mach.last_two hen
          have hjn:bs.length=s.length + 2:=by rw [hbs];simp
          have hjt:s.length=t.length:=by have h1:=HRP.out.1;rw [hbs,hstt] at h1;simp at h1;exact h1
          obtain ⟨Aa,ca,oka,rfl,hla,hFa,hoka⟩:=HRP.out.2 s.length a X (by rw [hbs];simp) (by rw [hstt,hjt];simp)
          obtain ⟨Ab,cb,okb,rfl,hlb,hFb,hokb⟩:=HRP.out.2 (s.length + 1) b Y (by rw [hbs];simp) (by rw [hstt,hjt];simp)
          have HPT:=Aside0.mk (RepsI.take (bs:=s) (cs:=[[.slice Aa X.1.length ca,.bool X.2],[.slice Ab Y.1.length cb,.bool Y.2]]) (st:=t) (tt:=[X,Y]) (by rw [← hbs,← hstt];exact HRP.out) hjt)
          have HTK:=Aside0.mk (show bs.take s.length=s from by rw [hbs];simp)
          have hpos:0 < bs.length:=by omega
          obtain ⟨g,cap,ef,_,_,_⟩:=Kd.R_form HO.out hpos
          injection ef with e1 e2 e3
          subst e1
          obtain ⟨rw1,hr1,hr2,hr3⟩:=Kd.R_get HO.out [] (s.length:Int) (by omega) (by omega)
          simp only [Int.toNat_natCast] at hr2 hr3
          obtain ⟨hr2,_,_⟩:=hr2
          rw [show bs.getD s.length []=[.slice Aa X.1.length ca,.bool X.2] from by rw [hbs];simp] at hr2
          subst hr2
          have had0:(⟨g,0,none⟩:Addr).add (s.length * 2 + 0)=⟨g,s.length * 2,none⟩:=by simp only [Addr.add,Nat.zero_add,Nat.add_zero];split <;> simp_all
          have had1:(⟨g,0,none⟩:Addr).add (s.length * 2 + 1)=⟨g,s.length * 2 + 1,none⟩:=by simp only [Addr.add,Nat.zero_add];split <;> simp_all
          have hx0:wr.cell? ⟨g,s.length * 2,none⟩=some (.slice Aa X.1.length ca):=by rw [← had0];exact hr3 0 _ rfl
          have hx1:wr.cell? ⟨g,s.length * 2 + 1,none⟩=some (.bool X.2):=by rw [← had1];exact hr3 1 _ rfl
          obtain ⟨rw2,hs1,hs2,hs3⟩:=Kd.R_get HO.out [] ((s.length + 1:Nat):Int) (by omega) (by omega)
          simp only [Int.toNat_natCast] at hs2 hs3
          obtain ⟨hs2,_,_⟩:=hs2
          rw [show bs.getD (s.length + 1) []=[.slice Ab Y.1.length cb,.bool Y.2] from by rw [hbs];simp] at hs2
          subst hs2
          have hbd0:(⟨g,0,none⟩:Addr).add ((s.length + 1) * 2 + 0)=⟨g,s.length * 2 + 2,none⟩:=by simp only [Addr.add,Nat.zero_add,Nat.add_zero,Nat.succ_mul];split <;> simp_all
          have hbd1:(⟨g,0,none⟩:Addr).add ((s.length + 1) * 2 + 1)=⟨g,s.length * 2 + 2 + 1,none⟩:=by simp only [Addr.add,Nat.zero_add,Nat.succ_mul];split <;> simp_all
          have hx2:wr.cell? ⟨g,s.length * 2 + 2,none⟩=some (.slice Ab Y.1.length cb):=by rw [← hbd0];exact hs3 0 _ rfl
          have hx3:wr.cell? ⟨g,s.length * 2 + 2 + 1,none⟩=some (.bool Y.2):=by rw [← hbd1];exact hs3 1 _ rfl
          have hcut1:=cut_to (P:=Try.prog) 129 102 .i64 Try.underlying129 hii (some ⟨g,0,none⟩) bs.length cc (s.length:Int) (by omega) (by omega) hcap
          have hcut2:=cut_from (P:=Try.prog) 129 102 .i64 Try.underlying129 hii 2 hiz.2.1 (some ⟨g,0,none⟩) bs.length cc (s.length:Int) (by omega) (by omega)
          have hadd:(⟨g,0,none⟩:Addr).add (s.length * 2)=⟨g,s.length * 2,none⟩:=by simp only [Addr.add,Nat.zero_add];split <;> simp_all
          have hsub:bs.length - s.length=2:=by omega
          have hnc:¬ cc=s.length:=by omega
          simp only [Int.toNat_natCast,if_neg hnc,Option.map_some,hadd,hsub] at hcut1 hcut2
          have hwn:wrap64 ((bs.length:Int) - 2)=(s.length:Int):=by have:=HSZ.out;have:=HBL.out;unfold wrap64;omega
          have hwk:IntKind.i64.wrap ((bs.length:Int) - 2)=(s.length:Int):=by have:=HSZ.out;have:=HBL.out;simp only [IntKind.wrap];simp [IntKind.signed,IntKind.bits];omega
          have hdn:decide ((bs.length:Int) < 2)=false:=decide_eq_false (by omega)
          have hdn2:decide (bs.length < 2)=false:=decide_eq_false (by omega)
          have qn0:((0:Int) ≤ (s.length:Int))=True:=eq_true (by omega)
          have qn1:((s.length:Int) ≤ (bs.length:Int))=True:=eq_true (by omega)
          have HSOF:Aside0 (∀ w',Below wr.heap.size wr w' → w'.cell? ⟨gb,1,none⟩=some (.func (.func 65) #[] #[])∧w'.cell? ⟨g,s.length * 2,none⟩=some (.slice Aa X.1.length ca)∧w'.cell? ⟨g,s.length * 2 + 1,none⟩=some (.bool X.2)∧w'.cell? ⟨g,s.length * 2 + 2,none⟩=some (.slice Ab Y.1.length cb)∧w'.cell? ⟨g,s.length * 2 + 2 + 1,none⟩=some (.bool Y.2)):=⟨fun w' hb=>⟨(hb.cell (World.block_lt_of_cell? wr _ hb1)).trans hb1,(hb.cell (World.block_lt_of_cell? wr _ hx0)).trans hx0,(hb.cell (World.block_lt_of_cell? wr _ hx1)).trans hx1,(hb.cell (World.block_lt_of_cell? wr _ hx2)).trans hx2,(hb.cell (World.block_lt_of_cell? wr _ hx3)).trans hx3⟩⟩
          obtain ⟨q,hq,hqr⟩:=HRC.out
          rw [hstt] at hq
          rw [Mach.step_dot] at hq
          obtain ⟨xl,hxl,rfl⟩:=Option.map_eq_some_iff.mp hq
          have HJC:Aside0 (∀ (gx:Nat) (W:World),gx < W.heap.size → Below wr.heap.size wr W → _):=⟨fun gx W hgx hW=>img_call (wr:=wr) (ok':=fun k=>gx < k) (count_Image_2.calls k Aa ca X.1 X.2 Ab cb Y.1 Y.2 xl.1 xl.2 W (Kd.F_now (Kd.F_below hFa hW)) hla (Kd.F_now (Kd.F_below hFb hW)) hlb hxl) (fun k hk=>Nat.lt_of_lt_of_le hgx hk)⟩
          have HQR:=Aside0.mk hqr
          have HLS:Aside0 (s.length ≤ i):=⟨by have:=HBL.out;omega⟩
          have HTT:=Aside0.mk hjt
          have HJN:=Aside0.mk hjn
          have HOA:=Aside0.mk hoka
          have HOB:=Aside0.mk hokb
          clear hq hqr HRC hc hii hiz hcap hbs hstt hjn hjt hFa hla hoka hFb hlb hokb hbd0 hbd1 hs1 hs3 hadd had0 had1 hsub hnc hpos e2 e3 hr1 hr3 hxl
          go_wp2_with (first
          | (go_at_call 91;(with_reducible refine (HX1.out _).mono ?_);rintro e w9 ⟨rfl,rfl⟩)
          | (go_at_call 91;(with_reducible refine (HX2.out _).mono ?_);rintro e w9 ⟨rfl,rfl⟩)
          | (go_at_call 91;(with_reducible refine (HX3.out _).mono ?_);rintro e w9 ⟨rfl,rfl⟩))
          go_region_held3 (fun _=>True) (trivial) (first|fail|fail)
          clear hcut1 hcut2
          go_wp2_with (first
            | ((with_reducible refine gate_dst (N:=13) rfl ?_);refine box_event ?hg (N:=13) ?hd (cs:=#[.slice none 0 0,.bool false]) (t:=102) ?hr ?_;(case hd=>rfl);(case hg=>rfl);(case hr=>first|(go_simp;done)|(go_simp;rfl));intro gx hgx wx hbox hb;have HX:=Aside0.mk hbox;have HGX:Aside0 (w9.heap.size ≤ gx):=⟨by rw [hgx];first|exact Nat.le_refl _|simp⟩;have HBX:Aside0 (Below w9.heap.size w9 wx):=⟨below_step (by ((repeat (first|exact Below.refl _ _|apply Below.drew));done)) hb⟩;have hq0:wx.cell? ⟨gx,0,none⟩=some (.slice none 0 0):=(blk_cell hbox 0).trans rfl;have hq1:wx.cell? ⟨gx,1,none⟩=some (.bool false):=(blk_cell hbox 1).trans rfl;have hqf0:wx.frozen? ⟨gx,0,none⟩=false:=blk_frozen hbox 0;have hqf1:wx.frozen? ⟨gx,1,none⟩=false:=blk_frozen hbox 1;have hgb0:wx.cell? ⟨gb,0,none⟩=some (.func (.func 64) #[] #[]):=(HBX.out.cell (World.block_lt_of_cell? w9 _ hb0)).trans hb0;clear hb hbox hgx))
          go_region_held3 (fun w'=>w'.cell? ⟨gb,1,none⟩=some (.func (.func 65) #[] #[])∧w'.cell? ⟨g,s.length * 2,none⟩=some (.slice Aa X.1.length ca)∧w'.cell? ⟨g,s.length * 2 + 1,none⟩=some (.bool X.2)∧w'.cell? ⟨g,s.length * 2 + 2,none⟩=some (.slice Ab Y.1.length cb)∧w'.cell? ⟨g,s.length * 2 + 2 + 1,none⟩=some (.bool Y.2))
            (exact HSOF.out _ (by ((repeat (first|exact Below.refl _ _|assumption|exact HBWL.out|exact HBX.out|apply Below.drew|apply below_alloc|refine below_set ?_ HGX.out));done)))
            (first
              | (go_at_call 65;(with_reducible refine (HJC.out gx _ ?hg ?bc).mono ?_);(case hg=>first|exact blk_lt HX.out|(have:=blk_lt HX.out;simpa using this));(case bc=>(repeat (first|exact Below.refl _ _|assumption|exact HBWL.out|exact HBX.out|apply Below.drew|apply below_alloc|refine below_set ?_ HGX.out)));rintro e wl ⟨vl,rfl,hVl,hbl0⟩;obtain ⟨Al,cl,rfl,_,_⟩:=id hVl;have hbl1:Below wx.heap.size wx wl:=(by first|exact hbl0|exact below_step (Below.refl _ _).drew hbl0|exact below_step (Below.drew (Below.drew (Below.refl _ _))) hbl0);have HBWL:Aside0 (Below w9.heap.size w9 wl):=⟨below_step HBX.out hbl1⟩;have hl0:wl.cell? ⟨gx,0,none⟩=some (.slice none 0 0):=(blk_cell (blk_below HX.out hbl1) 0).trans rfl;have hl1:wl.cell? ⟨gx,1,none⟩=some (.bool false):=(blk_cell (blk_below HX.out hbl1) 1).trans rfl;have hlf0:wl.frozen? ⟨gx,0,none⟩=false:=blk_frozen (blk_below HX.out hbl1) 0;have hlf1:wl.frozen? ⟨gx,1,none⟩=false:=blk_frozen (blk_below HX.out hbl1) 1;have HVL:=Aside0.mk hVl;clear hVl hbl0 hbl1)
              | fail)
          have HOKL:Aside0 (∀ k,gx < k → (w3.heap.size ≤ k∧k < w9.heap.size∧some k ≠ (Value.slice (some ⟨g,0,none⟩) s.length cc).ownBlock) ∨ gx < k):=⟨fun k hk=>Or.inr hk⟩
          have HBS2:Aside0 (Below w9.heap.size w9 ((wl.setCell ⟨gx,0,none⟩ (.slice Al xl.1.length cl)).setCell ⟨gx,1,none⟩ (.bool xl.2))):=⟨below_set (below_set HBWL.out HGX.out) HGX.out⟩
          have HOL:Aside0 (kimg.R 102 ((wl.setCell ⟨gx,0,none⟩ (.slice Al xl.1.length cl)).setCell ⟨gx,1,none⟩ (.bool xl.2)) w.heap.size (fun k=>w3.heap.size ≤ k) (.slice (some ⟨g,0,none⟩) s.length cc) s):=⟨by have h:=Kd.R_take (m:=s.length) (Kd.R_below HO.out HBS2.out) (by have:=HJN.out;omega);rw [HTK.out] at h;exact h⟩
          have HPL:Aside0 (RepsI w3.heap.size ((wl.setCell ⟨gx,0,none⟩ (.slice Al xl.1.length cl)).setCell ⟨gx,1,none⟩ (.bool xl.2)) (Value.slice (some ⟨g,0,none⟩) s.length cc).ownBlock s t):=⟨RepsI.below HPT.out HBS2.out⟩
          have HRL:Aside0 (RepI w3.heap.size ((wl.setCell ⟨gx,0,none⟩ (.slice Al xl.1.length cl)).setCell ⟨gx,1,none⟩ (.bool xl.2)) (Value.slice (some ⟨g,0,none⟩) s.length cc).ownBlock [.slice Al xl.1.length cl,.bool xl.2] xl):=⟨img_new (wr:=w9) (gx:=gx) HVL.out HOKL.out HGX.out HLW.out HOWN.out (fun k hk _=>set2_heap _ _ _ hk _ _) (Nat.le_of_eq (set2_size _ _ _ _).symm)⟩
          have HKL:=Aside0.mk (And.intro (blk_below HBK.out.1 HBS2.out) (And.intro (blk_below HBK.out.2.1 HBS2.out) (blk_below HBK.out.2.2 HBS2.out)))
          have HBL2:=Aside0.mk (below_step HB.out HBS2.out)
          go_wp2_with (first
            | ((with_reducible refine gate_builtin (b:=.append) (xs:=#[.tmp 97,.tmp 99]) rfl ?_);at_builtin;refine Kd.R_append kimg (w0:=w) w.heap.size rfl (.tmp 97) (.tmp 99) 129 102 (.agg #[.slice none 0 0,.bool false]) 32 rfl Try.underlying129 info102m rfl (by decide) (by omega) (.slice (some ⟨g,0,none⟩) s.length cc) s [.slice Al xl.1.length cl,.bool xl.2] [.slice Al xl.1.length cl,.bool xl.2] (fun k=>w3.heap.size ≤ k) (fun _=>False) rfl (by rw [set2_size];rfl) ⟨rfl,rfl,fun u hu=>by (simp at hu;rcases hu with rfl|rfl <;> rfl)⟩ (fun _ h=>h.elim) (fun k hk=>by have:=HLW.out;have:=HBWL.out.size;simp [World.setCell] at hk;omega) HOL.out HBL2.out (below_size HBL2.out) (by have:=HLS.out;have:=HSZ.out;have:=HI.out;omega) ?_;intro v1 w10 hR1 hb1 hg1 hat1;have HALL:=Aside0.mk (img_push HOL.out HPL.out HRL.out HBL2.out HKL.out HLO.out hR1 hg1 hat1);have HSZ10:=Aside0.mk hg1.size;clear hR1 hb1 hg1 hat1))
          rcases HQR.out with ⟨h,_⟩|⟨st',h1,h2⟩
          · cases h
          obtain rfl:=Option.some.inj h1
          have HRUN2:=Aside0.mk h2
          clear h1 h2
          go_roundw
          case rel=>exact ⟨i + 1,s ++ [[.slice Al xl.1.length cl,.bool xl.2]],t ++ [xl],congrArg _ HW.out,⟨HLT.out⟩,⟨HALL.out.1⟩,⟨HALL.out.2.1⟩,⟨by rw [List.length_append];have:=HLS.out;simp;omega⟩,HRUN2,⟨HALL.out.2.2.1⟩,⟨HALL.out.2.2.2⟩,⟨by have:=HSZ10.out;rw [set2_size] at this;have:=HBWL.out.size;have:=HLW.out;omega⟩⟩
          case measure=>rw [HW.out];simp only [intOf];have:=HLT.out;omega
        · have hci:(code[i]'hlt).toNat=46:=by rw [← hc];rfl
          have HX1:=Aside0.mk (fun W=>IndexByte_one 42 46 46 46 (by decide) (by decide) (-1) (by decide) W)
          have HX2:=Aside0.mk (fun W=>IndexByte_one 46 46 46 46 (by decide) (by decide) 0 (by decide) W)
          have HX3:=Aside0.mk (fun W=>IndexByte_one 43 46 46 46 (by decide) (by decide) (-1) (by decide) W)
          have hdn:decide ((bs.length:Int) < 2)=true:=decide_eq_true (by have:=HRP.out.1;omega)
          have hdn2:decide (bs.length < 2)=true:=decide_eq_true (by have:=HRP.out.1;omega)
          obtain ⟨q,hq,hqr⟩:=HRC.out
          rw [Mach.step_few _ _ _ _ (.inl ⟨.inl rfl,by omega⟩)] at hq
          obtain rfl:=Option.some.inj hq
          have hr:r=none:=by
            rcases hqr with ⟨_,h⟩|⟨st',h1,_⟩
            · exact h
            · cases h1
          subst hr
          clear hq hqr HRC hc hii hiz hcap hen
          go_wp2_with (first
          | (go_at_call 91;(with_reducible refine (HX1.out _).mono ?_);rintro e w9 ⟨rfl,rfl⟩)
          | (go_at_call 91;(with_reducible refine (HX2.out _).mono ?_);rintro e w9 ⟨rfl,rfl⟩)
          | (go_at_call 91;(with_reducible refine (HX3.out _).mono ?_);rintro e w9 ⟨rfl,rfl⟩))
          refine bodyPost_ret (results_cell_tmp rfl _ _ g4 102 #[.slice none 0 0,.bool false] (0,0) _ rfl (blk_put (blk_put HBK.out.2.1 0 _ rfl) 1 _ rfl) Try.underlying102 rfl (by kernel_rfl)) rfl ?_
          exact imgPost_none (below_set (below_set HB.out HG40.out) HG40.out)
      · by_cases hen:2 ≤ st.length
        · have hci:(code[i]'hlt).toNat=43:=by rw [← hc];rfl
          have HX1:=Aside0.mk (fun W=>IndexByte_one 42 43 43 43 (by decide) (by decide) (-1) (by decide) W)
          have HX2:=Aside0.mk (fun W=>IndexByte_one 46 43 43 43 (by decide) (by decide) (-1) (by decide) W)
          have HX3:=Aside0.mk (fun W=>IndexByte_one 43 43 43 43 (by decide) (by decide) 0 (by decide) W)
          obtain ⟨s,a,b,hbs⟩:=Mach.last_two (st:=bs) (by have:=HRP.out.1;omega)
          obtain ⟨t,X,Y,hstt⟩:=Mach.last_two hen
          have hjn:bs.length=s.length + 2:=by rw [hbs];simp
          have hjt:s.length=t.length:=by have h1:=HRP.out.1;rw [hbs,hstt] at h1;simp at h1;exact h1
          obtain ⟨Aa,ca,oka,rfl,hla,hFa,hoka⟩:=HRP.out.2 s.length a X (by rw [hbs];simp) (by rw [hstt,hjt];simp)
          obtain ⟨Ab,cb,okb,rfl,hlb,hFb,hokb⟩:=HRP.out.2 (s.length + 1) b Y (by rw [hbs];simp) (by rw [hstt,hjt];simp)
          have HPT:=Aside0.mk (RepsI.take (bs:=s) (cs:=[[.slice Aa X.1.length ca,.bool X.2],[.slice Ab Y.1.length cb,.bool Y.2]]) (st:=t) (tt:=[X,Y]) (by rw [← hbs,← hstt];exact HRP.out) hjt)
          have HTK:=Aside0.mk (show bs.take s.length=s from by rw [hbs];simp)
          have hpos:0 < bs.length:=by omega
          obtain ⟨g,cap,ef,_,_,_⟩:=Kd.R_form HO.out hpos
          injection ef with e1 e2 e3
          subst e1
          obtain ⟨rw1,hr1,hr2,hr3⟩:=Kd.R_get HO.out [] (s.length:Int) (by omega) (by omega)
          simp only [Int.toNat_natCast] at hr2 hr3
          obtain ⟨hr2,_,_⟩:=hr2
          rw [show bs.getD s.length []=[.slice Aa X.1.length ca,.bool X.2] from by rw [hbs];simp] at hr2
          subst hr2
          have had0:(⟨g,0,none⟩:Addr).add (s.length * 2 + 0)=⟨g,s.length * 2,none⟩:=by simp only [Addr.add,Nat.zero_add,Nat.add_zero];split <;> simp_all
          have had1:(⟨g,0,none⟩:Addr).add (s.length * 2 + 1)=⟨g,s.length * 2 + 1,none⟩:=by simp only [Addr.add,Nat.zero_add];split <;> simp_all
          have hx0:wr.cell? ⟨g,s.length * 2,none⟩=some (.slice Aa X.1.length ca):=by rw [← had0];exact hr3 0 _ rfl
          have hx1:wr.cell? ⟨g,s.length * 2 + 1,none⟩=some (.bool X.2):=by rw [← had1];exact hr3 1 _ rfl
          obtain ⟨rw2,hs1,hs2,hs3⟩:=Kd.R_get HO.out [] ((s.length + 1:Nat):Int) (by omega) (by omega)
          simp only [Int.toNat_natCast] at hs2 hs3
          obtain ⟨hs2,_,_⟩:=hs2
          rw [show bs.getD (s.length + 1) []=[.slice Ab Y.1.length cb,.bool Y.2] from by rw [hbs];simp] at hs2
          subst hs2
          have hbd0:(⟨g,0,none⟩:Addr).add ((s.length + 1) * 2 + 0)=⟨g,s.length * 2 + 2,none⟩:=by simp only [Addr.add,Nat.zero_add,Nat.add_zero,Nat.succ_mul];split <;> simp_all
          have hbd1:(⟨g,0,none⟩:Addr).add ((s.length + 1) * 2 + 1)=⟨g,s.length * 2 + 2 + 1,none⟩:=by simp only [Addr.add,Nat.zero_add,Nat.succ_mul];split <;> simp_all
          have hx2:wr.cell? ⟨g,s.length * 2 + 2,none⟩=some (.slice Ab Y.1.length cb):=by rw [← hbd0];exact hs3 0 _ rfl
          have hx3:wr.cell? ⟨g,s.length * 2 + 2 + 1,none⟩=some (.bool Y.2):=by rw [← hbd1];exact hs3 1 _ rfl
          have hcut1:=cut_to (P:=Try.prog) 129 102 .i64 Try.underlying129 hii (some ⟨g,0,none⟩) bs.length cc (s.length:Int) (by omega) (by omega) hcap
          have hcut2:=cut_from (P:=Try.prog) 129 102 .i64 Try.underlying129 hii 2 hiz.2.1 (some ⟨g,0,none⟩) bs.length cc (s.length:Int) (by omega) (by omega)
          have hadd:(⟨g,0,none⟩:Addr).add (s.length * 2)=⟨g,s.length * 2,none⟩:=by simp only [Addr.add,Nat.zero_add];split <;> simp_all
          have hsub:bs.length - s.length=2:=by omega
          have hnc:¬ cc=s.length:=by omega
          simp only [Int.toNat_natCast,if_neg hnc,Option.map_some,hadd,hsub] at hcut1 hcut2
          have hwn:wrap64 ((bs.length:Int) - 2)=(s.length:Int):=by have:=HSZ.out;have:=HBL.out;unfold wrap64;omega
          have hwk:IntKind.i64.wrap ((bs.length:Int) - 2)=(s.length:Int):=by have:=HSZ.out;have:=HBL.out;simp only [IntKind.wrap];simp [IntKind.signed,IntKind.bits];omega
          have hdn:decide ((bs.length:Int) < 2)=false:=decide_eq_false (by omega)
          have hdn2:decide (bs.length < 2)=false:=decide_eq_false (by omega)
          have qn0:((0:Int) ≤ (s.length:Int))=True:=eq_true (by omega)
          have qn1:((s.length:Int) ≤ (bs.length:Int))=True:=eq_true (by omega)
          have HSOF:Aside0 (∀ w',Below wr.heap.size wr w' → w'.cell? ⟨gb,2,none⟩=some (.func (.func 68) #[] #[])∧w'.cell? ⟨g,s.length * 2,none⟩=some (.slice Aa X.1.length ca)∧w'.cell? ⟨g,s.length * 2 + 1,none⟩=some (.bool X.2)∧w'.cell? ⟨g,s.length * 2 + 2,none⟩=some (.slice Ab Y.1.length cb)∧w'.cell? ⟨g,s.length * 2 + 2 + 1,none⟩=some (.bool Y.2)):=⟨fun w' hb=>⟨(hb.cell (World.block_lt_of_cell? wr _ hb2)).trans hb2,(hb.cell (World.block_lt_of_cell? wr _ hx0)).trans hx0,(hb.cell (World.block_lt_of_cell? wr _ hx1)).trans hx1,(hb.cell (World.block_lt_of_cell? wr _ hx2)).trans hx2,(hb.cell (World.block_lt_of_cell? wr _ hx3)).trans hx3⟩⟩
          obtain ⟨q,hq,hqr⟩:=HRC.out
          rw [hstt] at hq
          rw [Mach.step_plus] at hq
          obtain ⟨xl,hxl,rfl⟩:=Option.map_eq_some_iff.mp hq
          have HJC:Aside0 (∀ (gx:Nat) (W:World),gx < W.heap.size → Below wr.heap.size wr W → _):=⟨fun gx W hgx hW=>img_call (wr:=wr) (ok':=fun k=>(oka k ∨ okb k) ∨ gx < k) (count_Image_3.calls k oka Aa ca X.1 X.2 okb Ab cb Y.1 Y.2 xl.1 xl.2 W (Kd.V_mk hla (Kd.F_below hFa hW)) (Kd.V_mk hlb (Kd.F_below hFb hW)) hxl) (fun k hk=>hk.imp id (fun h=>Nat.lt_of_lt_of_le hgx h))⟩
          have HQR:=Aside0.mk hqr
          have HLS:Aside0 (s.length ≤ i):=⟨by have:=HBL.out;omega⟩
          have HTT:=Aside0.mk hjt
          have HJN:=Aside0.mk hjn
          have HOA:=Aside0.mk hoka
          have HOB:=Aside0.mk hokb
          clear hq hqr HRC hc hii hiz hcap hbs hstt hjn hjt hFa hla hoka hFb hlb hokb hbd0 hbd1 hs1 hs3 hadd had0 had1 hsub hnc hpos e2 e3 hr1 hr3 hxl
          go_wp2_with (first
          | (go_at_call 91;(with_reducible refine (HX1.out _).mono ?_);rintro e w9 ⟨rfl,rfl⟩)
          | (go_at_call 91;(with_reducible refine (HX2.out _).mono ?_);rintro e w9 ⟨rfl,rfl⟩)
          | (go_at_call 91;(with_reducible refine (HX3.out _).mono ?_);rintro e w9 ⟨rfl,rfl⟩))
          go_region_held3 (fun _=>True) (trivial) (first|fail|fail)
          clear hcut1 hcut2
          go_wp2_with (first
            | ((with_reducible refine gate_dst (N:=13) rfl ?_);refine box_event ?hg (N:=13) ?hd (cs:=#[.slice none 0 0,.bool false]) (t:=102) ?hr ?_;(case hd=>rfl);(case hg=>rfl);(case hr=>first|(go_simp;done)|(go_simp;rfl));intro gx hgx wx hbox hb;have HX:=Aside0.mk hbox;have HGX:Aside0 (w9.heap.size ≤ gx):=⟨by rw [hgx];first|exact Nat.le_refl _|simp⟩;have HBX:Aside0 (Below w9.heap.size w9 wx):=⟨below_step (by ((repeat (first|exact Below.refl _ _|apply Below.drew));done)) hb⟩;have hq0:wx.cell? ⟨gx,0,none⟩=some (.slice none 0 0):=(blk_cell hbox 0).trans rfl;have hq1:wx.cell? ⟨gx,1,none⟩=some (.bool false):=(blk_cell hbox 1).trans rfl;have hqf0:wx.frozen? ⟨gx,0,none⟩=false:=blk_frozen hbox 0;have hqf1:wx.frozen? ⟨gx,1,none⟩=false:=blk_frozen hbox 1;have hgb0:wx.cell? ⟨gb,0,none⟩=some (.func (.func 64) #[] #[]):=(HBX.out.cell (World.block_lt_of_cell? w9 _ hb0)).trans hb0;clear hb hbox hgx))
          go_region_held3 (fun w'=>w'.cell? ⟨gb,2,none⟩=some (.func (.func 68) #[] #[])∧w'.cell? ⟨g,s.length * 2,none⟩=some (.slice Aa X.1.length ca)∧w'.cell? ⟨g,s.length * 2 + 1,none⟩=some (.bool X.2)∧w'.cell? ⟨g,s.length * 2 + 2,none⟩=some (.slice Ab Y.1.length cb)∧w'.cell? ⟨g,s.length * 2 + 2 + 1,none⟩=some (.bool Y.2))
            (exact HSOF.out _ (by ((repeat (first|exact Below.refl _ _|assumption|exact HBWL.out|exact HBX.out|apply Below.drew|apply below_alloc|refine below_set ?_ HGX.out));done)))
            (first
              | (go_at_call 68;(with_reducible refine (HJC.out gx _ ?hg ?bc).mono ?_);(case hg=>first|exact blk_lt HX.out|(have:=blk_lt HX.out;simpa using this));(case bc=>(repeat (first|exact Below.refl _ _|assumption|exact HBWL.out|exact HBX.out|apply Below.drew|apply below_alloc|refine below_set ?_ HGX.out)));rintro e wl ⟨vl,rfl,hVl,hbl0⟩;obtain ⟨Al,cl,rfl,_,_⟩:=id hVl;have hbl1:Below wx.heap.size wx wl:=(by first|exact hbl0|exact below_step (Below.refl _ _).drew hbl0|exact below_step (Below.drew (Below.drew (Below.refl _ _))) hbl0);have HBWL:Aside0 (Below w9.heap.size w9 wl):=⟨below_step HBX.out hbl1⟩;have hl0:wl.cell? ⟨gx,0,none⟩=some (.slice none 0 0):=(blk_cell (blk_below HX.out hbl1) 0).trans rfl;have hl1:wl.cell? ⟨gx,1,none⟩=some (.bool false):=(blk_cell (blk_below HX.out hbl1) 1).trans rfl;have hlf0:wl.frozen? ⟨gx,0,none⟩=false:=blk_frozen (blk_below HX.out hbl1) 0;have hlf1:wl.frozen? ⟨gx,1,none⟩=false:=blk_frozen (blk_below HX.out hbl1) 1;have HVL:=Aside0.mk hVl;clear hVl hbl0 hbl1)
              | fail)
          have HOKL:Aside0 (∀ k,(oka k ∨ okb k) ∨ gx < k → (w3.heap.size ≤ k∧k < w9.heap.size∧some k ≠ (Value.slice (some ⟨g,0,none⟩) s.length cc).ownBlock) ∨ gx < k):=⟨fun k hk=>by
            rcases hk with (h|h)|h
            · exact .inl (HOA.out k h)
            · exact .inl (HOB.out k h)
            · exact .inr h⟩
          have HBS2:Aside0 (Below w9.heap.size w9 ((wl.setCell ⟨gx,0,none⟩ (.slice Al xl.1.length cl)).setCell ⟨gx,1,none⟩ (.bool xl.2))):=⟨below_set (below_set HBWL.out HGX.out) HGX.out⟩
          have HOL:Aside0 (kimg.R 102 ((wl.setCell ⟨gx,0,none⟩ (.slice Al xl.1.length cl)).setCell ⟨gx,1,none⟩ (.bool xl.2)) w.heap.size (fun k=>w3.heap.size ≤ k) (.slice (some ⟨g,0,none⟩) s.length cc) s):=⟨by have h:=Kd.R_take (m:=s.length) (Kd.R_below HO.out HBS2.out) (by have:=HJN.out;omega);rw [HTK.out] at h;exact h⟩
          have HPL:Aside0 (RepsI w3.heap.size ((wl.setCell ⟨gx,0,none⟩ (.slice Al xl.1.length cl)).setCell ⟨gx,1,none⟩ (.bool xl.2)) (Value.slice (some ⟨g,0,none⟩) s.length cc).ownBlock s t):=⟨RepsI.below HPT.out HBS2.out⟩
          have HRL:Aside0 (RepI w3.heap.size ((wl.setCell ⟨gx,0,none⟩ (.slice Al xl.1.length cl)).setCell ⟨gx,1,none⟩ (.bool xl.2)) (Value.slice (some ⟨g,0,none⟩) s.length cc).ownBlock [.slice Al xl.1.length cl,.bool xl.2] xl):=⟨img_new (wr:=w9) (gx:=gx) HVL.out HOKL.out HGX.out HLW.out HOWN.out (fun k hk _=>set2_heap _ _ _ hk _ _) (Nat.le_of_eq (set2_size _ _ _ _).symm)⟩
          have HKL:=Aside0.mk (And.intro (blk_below HBK.out.1 HBS2.out) (And.intro (blk_below HBK.out.2.1 HBS2.out) (blk_below HBK.out.2.2 HBS2.out)))
          have HBL2:=Aside0.mk (below_step HB.out HBS2.out)
          go_wp2_with (first
            | ((with_reducible refine gate_builtin (b:=.append) (xs:=#[.tmp 97,.tmp 99]) rfl ?_);at_builtin;refine Kd.R_append kimg (w0:=w) w.heap.size rfl (.tmp 97) (.tmp 99) 129 102 (.agg #[.slice none 0 0,.bool false]) 32 rfl Try.underlying129 info102m rfl (by decide) (by omega) (.slice (some ⟨g,0,none⟩) s.length cc) s [.slice Al xl.1.length cl,.bool xl.2] [.slice Al xl.1.length cl,.bool xl.2] (fun k=>w3.heap.size ≤ k) (fun _=>False) rfl (by rw [set2_size];rfl) ⟨rfl,rfl,fun u hu=>by (simp at hu;rcases hu with rfl|rfl <;> rfl)⟩ (fun _ h=>h.elim) (fun k hk=>by have:=HLW.out;have:=HBWL.out.size;simp [World.setCell] at hk;omega) HOL.out HBL2.out (below_size HBL2.out) (by have:=HLS.out;have:=HSZ.out;have:=HI.out;omega) ?_;intro v1 w10 hR1 hb1 hg1 hat1;have HALL:=Aside0.mk (img_push HOL.out HPL.out HRL.out HBL2.out HKL.out HLO.out hR1 hg1 hat1);have HSZ10:=Aside0.mk hg1.size;clear hR1 hb1 hg1 hat1))
          rcases HQR.out with ⟨h,_⟩|⟨st',h1,h2⟩
          · cases h
          obtain rfl:=Option.some.inj h1
          have HRUN2:=Aside0.mk h2
          clear h1 h2
          go_roundw
          case rel=>exact ⟨i + 1,s ++ [[.slice Al xl.1.length cl,.bool xl.2]],t ++ [xl],congrArg _ HW.out,⟨HLT.out⟩,⟨HALL.out.1⟩,⟨HALL.out.2.1⟩,⟨by rw [List.length_append];have:=HLS.out;simp;omega⟩,HRUN2,⟨HALL.out.2.2.1⟩,⟨HALL.out.2.2.2⟩,⟨by have:=HSZ10.out;rw [set2_size] at this;have:=HBWL.out.size;have:=HLW.out;omega⟩⟩
          case measure=>rw [HW.out];simp only [intOf];have:=HLT.out;omega
        · have hci:(code[i]'hlt).toNat=43:=by rw [← hc];rfl
          have HX1:=Aside0.mk (fun W=>IndexByte_one 42 43 43 43 (by decide) (by decide) (-1) (by decide) W)
          have HX2:=Aside0.mk (fun W=>IndexByte_one 46 43 43 43 (by decide) (by decide) (-1) (by decide) W)
          have HX3:=Aside0.mk (fun W=>IndexByte_one 43 43 43 43 (by decide) (by decide) 0 (by decide) W)
          have hdn:decide ((bs.length:Int) < 2)=true:=decide_eq_true (by have:=HRP.out.1;omega)
          have hdn2:decide (bs.length < 2)=true:=decide_eq_true (by have:=HRP.out.1;omega)
          obtain ⟨q,hq,hqr⟩:=HRC.out
          rw [Mach.step_few _ _ _ _ (.inl ⟨.inr rfl,by omega⟩)] at hq
          obtain rfl:=Option.some.inj hq
          have hr:r=none:=by
            rcases hqr with ⟨_,h⟩|⟨st',h1,_⟩
            · exact h
            · cases h1
          subst hr
          clear hq hqr HRC hc hii hiz hcap hen
          go_wp2_with (first
          | (go_at_call 91;(with_reducible refine (HX1.out _).mono ?_);rintro e w9 ⟨rfl,rfl⟩)
          | (go_at_call 91;(with_reducible refine (HX2.out _).mono ?_);rintro e w9 ⟨rfl,rfl⟩)
          | (go_at_call 91;(with_reducible refine (HX3.out _).mono ?_);rintro e w9 ⟨rfl,rfl⟩))
          refine bodyPost_ret (results_cell_tmp rfl _ _ g4 102 #[.slice none 0 0,.bool false] (0,0) _ rfl (blk_put (blk_put HBK.out.2.1 0 _ rfl) 1 _ rfl) Try.underlying102 rfl (by kernel_rfl)) rfl ?_
          exact imgPost_none (below_set (below_set HB.out HG40.out) HG40.out)
      · by_cases hen:1 ≤ st.length
        · have hci:(code[i]'hlt).toNat=42:=by rw [← hc];rfl
          have HX1:=Aside0.mk (fun W=>IndexByte_one 42 42 42 42 (by decide) (by decide) 0 (by decide) W)
          have HX2:=Aside0.mk (fun W=>IndexByte_one 46 42 42 42 (by decide) (by decide) (-1) (by decide) W)
          have HX3:=Aside0.mk (fun W=>IndexByte_one 43 42 42 42 (by decide) (by decide) (-1) (by decide) W)
          obtain ⟨s,a,hbs⟩:=Mach.last_one (st:=bs) (by have:=HRP.out.1;omega)
          obtain ⟨t,X,hstt⟩:=Mach.last_one hen
          have hjn:bs.length=s.length + 1:=by rw [hbs];simp
          have hjt:s.length=t.length:=by have h1:=HRP.out.1;rw [hbs,hstt] at h1;simp at h1;exact h1
          obtain ⟨Aa,ca,oka,rfl,hla,hFa,hoka⟩:=HRP.out.2 s.length a X (by rw [hbs];simp) (by rw [hstt,hjt];simp)
          have HPT:=Aside0.mk (RepsI.take (bs:=s) (cs:=[[.slice Aa X.1.length ca,.bool X.2]]) (st:=t) (tt:=[X]) (by rw [← hbs,← hstt];exact HRP.out) hjt)
          have HTK:=Aside0.mk (show bs.take s.length=s from by rw [hbs];simp)
          have hpos:0 < bs.length:=by omega
          obtain ⟨g,cap,ef,_,_,_⟩:=Kd.R_form HO.out hpos
          injection ef with e1 e2 e3
          subst e1
          obtain ⟨rw1,hr1,hr2,hr3⟩:=Kd.R_get HO.out [] (s.length:Int) (by omega) (by omega)
          simp only [Int.toNat_natCast] at hr2 hr3
          obtain ⟨hr2,_,_⟩:=hr2
          rw [show bs.getD s.length []=[.slice Aa X.1.length ca,.bool X.2] from by rw [hbs];simp] at hr2
          subst hr2
          have had0:(⟨g,0,none⟩:Addr).add (s.length * 2 + 0)=⟨g,s.length * 2,none⟩:=by simp only [Addr.add,Nat.zero_add,Nat.add_zero];split <;> simp_all
          have had1:(⟨g,0,none⟩:Addr).add (s.length * 2 + 1)=⟨g,s.length * 2 + 1,none⟩:=by simp only [Addr.add,Nat.zero_add];split <;> simp_all
          have hx0:wr.cell? ⟨g,s.length * 2,none⟩=some (.slice Aa X.1.length ca):=by rw [← had0];exact hr3 0 _ rfl
          have hx1:wr.cell? ⟨g,s.length * 2 + 1,none⟩=some (.bool X.2):=by rw [← had1];exact hr3 1 _ rfl
          have hcut1:=cut_to (P:=Try.prog) 129 102 .i64 Try.underlying129 hii (some ⟨g,0,none⟩) bs.length cc (s.length:Int) (by omega) (by omega) hcap
          have hcut2:=cut_from (P:=Try.prog) 129 102 .i64 Try.underlying129 hii 2 hiz.2.1 (some ⟨g,0,none⟩) bs.length cc (s.length:Int) (by omega) (by omega)
          have hadd:(⟨g,0,none⟩:Addr).add (s.length * 2)=⟨g,s.length * 2,none⟩:=by simp only [Addr.add,Nat.zero_add];split <;> simp_all
          have hsub:bs.length - s.length=1:=by omega
          have hnc:¬ cc=s.length:=by omega
          simp only [Int.toNat_natCast,if_neg hnc,Option.map_some,hadd,hsub] at hcut1 hcut2
          have hwn:wrap64 ((bs.length:Int) - 1)=(s.length:Int):=by have:=HSZ.out;have:=HBL.out;unfold wrap64;omega
          have hwk:IntKind.i64.wrap ((bs.length:Int) - 1)=(s.length:Int):=by have:=HSZ.out;have:=HBL.out;simp only [IntKind.wrap];simp [IntKind.signed,IntKind.bits];omega
          have hdn:decide ((bs.length:Int) < 1)=false:=decide_eq_false (by omega)
          have hdn2:decide (bs.length < 1)=false:=decide_eq_false (by omega)
          have qn0:((0:Int) ≤ (s.length:Int))=True:=eq_true (by omega)
          have qn1:((s.length:Int) ≤ (bs.length:Int))=True:=eq_true (by omega)
          have HSOF:Aside0 (∀ w',Below wr.heap.size wr w' → w'.cell? ⟨gb,3,none⟩=some (.func (.func 70) #[] #[])∧w'.cell? ⟨g,s.length * 2,none⟩=some (.slice Aa X.1.length ca)∧w'.cell? ⟨g,s.length * 2 + 1,none⟩=some (.bool X.2)):=⟨fun w' hb=>⟨(hb.cell (World.block_lt_of_cell? wr _ hb3)).trans hb3,(hb.cell (World.block_lt_of_cell? wr _ hx0)).trans hx0,(hb.cell (World.block_lt_of_cell? wr _ hx1)).trans hx1⟩⟩
          obtain ⟨q,hq,hqr⟩:=HRC.out
          rw [hstt] at hq
          rw [Mach.step_star] at hq
          obtain ⟨xl,hxl,rfl⟩:=Option.map_eq_some_iff.mp hq
          have HJC:Aside0 (∀ (gx:Nat) (W:World),gx < W.heap.size → Below wr.heap.size wr W → _):=⟨fun gx W hgx hW=>img_call (wr:=wr) (ok':=fun k=>oka k ∨ gx < k) (count_Image_4.calls k oka Aa ca X.1 X.2 xl.1 xl.2 W (Kd.V_mk hla (Kd.F_below hFa hW)) hxl) (fun k hk=>hk.imp id (fun h=>Nat.lt_of_lt_of_le hgx h))⟩
          have HQR:=Aside0.mk hqr
          have HLS:Aside0 (s.length ≤ i):=⟨by have:=HBL.out;omega⟩
          have HTT:=Aside0.mk hjt
          have HJN:=Aside0.mk hjn
          have HOA:=Aside0.mk hoka
          clear hq hqr HRC hc hii hiz hcap hbs hstt hjn hjt hFa hla hoka  hadd had0 had1 hsub hnc hpos e2 e3 hr1 hr3 hxl
          go_wp2_with (first
          | (go_at_call 91;(with_reducible refine (HX1.out _).mono ?_);rintro e w9 ⟨rfl,rfl⟩)
          | (go_at_call 91;(with_reducible refine (HX2.out _).mono ?_);rintro e w9 ⟨rfl,rfl⟩)
          | (go_at_call 91;(with_reducible refine (HX3.out _).mono ?_);rintro e w9 ⟨rfl,rfl⟩))
          go_region_held3 (fun _=>True) (trivial) (first|fail|fail)
          clear hcut1 hcut2
          go_wp2_with (first
            | ((with_reducible refine gate_dst (N:=13) rfl ?_);refine box_event ?hg (N:=13) ?hd (cs:=#[.slice none 0 0,.bool false]) (t:=102) ?hr ?_;(case hd=>rfl);(case hg=>rfl);(case hr=>first|(go_simp;done)|(go_simp;rfl));intro gx hgx wx hbox hb;have HX:=Aside0.mk hbox;have HGX:Aside0 (w9.heap.size ≤ gx):=⟨by rw [hgx];first|exact Nat.le_refl _|simp⟩;have HBX:Aside0 (Below w9.heap.size w9 wx):=⟨below_step (by ((repeat (first|exact Below.refl _ _|apply Below.drew));done)) hb⟩;have hq0:wx.cell? ⟨gx,0,none⟩=some (.slice none 0 0):=(blk_cell hbox 0).trans rfl;have hq1:wx.cell? ⟨gx,1,none⟩=some (.bool false):=(blk_cell hbox 1).trans rfl;have hqf0:wx.frozen? ⟨gx,0,none⟩=false:=blk_frozen hbox 0;have hqf1:wx.frozen? ⟨gx,1,none⟩=false:=blk_frozen hbox 1;have hgb0:wx.cell? ⟨gb,0,none⟩=some (.func (.func 64) #[] #[]):=(HBX.out.cell (World.block_lt_of_cell? w9 _ hb0)).trans hb0;clear hb hbox hgx))
          go_region_held3 (fun w'=>w'.cell? ⟨gb,3,none⟩=some (.func (.func 70) #[] #[])∧w'.cell? ⟨g,s.length * 2,none⟩=some (.slice Aa X.1.length ca)∧w'.cell? ⟨g,s.length * 2 + 1,none⟩=some (.bool X.2))
            (exact HSOF.out _ (by ((repeat (first|exact Below.refl _ _|assumption|exact HBWL.out|exact HBX.out|apply Below.drew|apply below_alloc|refine below_set ?_ HGX.out));done)))
            (first
              | (go_at_call 70;(with_reducible refine (HJC.out gx _ ?hg ?bc).mono ?_);(case hg=>first|exact blk_lt HX.out|(have:=blk_lt HX.out;simpa using this));(case bc=>(repeat (first|exact Below.refl _ _|assumption|exact HBWL.out|exact HBX.out|apply Below.drew|apply below_alloc|refine below_set ?_ HGX.out)));rintro e wl ⟨vl,rfl,hVl,hbl0⟩;obtain ⟨Al,cl,rfl,_,_⟩:=id hVl;have hbl1:Below wx.heap.size wx wl:=(by first|exact hbl0|exact below_step (Below.refl _ _).drew hbl0|exact below_step (Below.drew (Below.drew (Below.refl _ _))) hbl0);have HBWL:Aside0 (Below w9.heap.size w9 wl):=⟨below_step HBX.out hbl1⟩;have hl0:wl.cell? ⟨gx,0,none⟩=some (.slice none 0 0):=(blk_cell (blk_below HX.out hbl1) 0).trans rfl;have hl1:wl.cell? ⟨gx,1,none⟩=some (.bool false):=(blk_cell (blk_below HX.out hbl1) 1).trans rfl;have hlf0:wl.frozen? ⟨gx,0,none⟩=false:=blk_frozen (blk_below HX.out hbl1) 0;have hlf1:wl.frozen? ⟨gx,1,none⟩=false:=blk_frozen (blk_below HX.out hbl1) 1;have HVL:=Aside0.mk hVl;clear hVl hbl0 hbl1)
              | fail)
          have HOKL:Aside0 (∀ k,oka k ∨ gx < k → (w3.heap.size ≤ k∧k < w9.heap.size∧some k ≠ (Value.slice (some ⟨g,0,none⟩) s.length cc).ownBlock) ∨ gx < k):=⟨fun k hk=>by
            rcases hk with h|h
            · exact .inl (HOA.out k h)
            · exact .inr h⟩
          have HBS2:Aside0 (Below w9.heap.size w9 ((wl.setCell ⟨gx,0,none⟩ (.slice Al xl.1.length cl)).setCell ⟨gx,1,none⟩ (.bool xl.2))):=⟨below_set (below_set HBWL.out HGX.out) HGX.out⟩
          have HOL:Aside0 (kimg.R 102 ((wl.setCell ⟨gx,0,none⟩ (.slice Al xl.1.length cl)).setCell ⟨gx,1,none⟩ (.bool xl.2)) w.heap.size (fun k=>w3.heap.size ≤ k) (.slice (some ⟨g,0,none⟩) s.length cc) s):=⟨by have h:=Kd.R_take (m:=s.length) (Kd.R_below HO.out HBS2.out) (by have:=HJN.out;omega);rw [HTK.out] at h;exact h⟩
          have HPL:Aside0 (RepsI w3.heap.size ((wl.setCell ⟨gx,0,none⟩ (.slice Al xl.1.length cl)).setCell ⟨gx,1,none⟩ (.bool xl.2)) (Value.slice (some ⟨g,0,none⟩) s.length cc).ownBlock s t):=⟨RepsI.below HPT.out HBS2.out⟩
          have HRL:Aside0 (RepI w3.heap.size ((wl.setCell ⟨gx,0,none⟩ (.slice Al xl.1.length cl)).setCell ⟨gx,1,none⟩ (.bool xl.2)) (Value.slice (some ⟨g,0,none⟩) s.length cc).ownBlock [.slice Al xl.1.length cl,.bool xl.2] xl):=⟨img_new (wr:=w9) (gx:=gx) HVL.out HOKL.out HGX.out HLW.out HOWN.out (fun k hk _=>set2_heap _ _ _ hk _ _) (Nat.le_of_eq (set2_size _ _ _ _).symm)⟩
          have HKL:=Aside0.mk (And.intro (blk_below HBK.out.1 HBS2.out) (And.intro (blk_below HBK.out.2.1 HBS2.out) (blk_below HBK.out.2.2 HBS2.out)))
          have HBL2:=Aside0.mk (below_step HB.out HBS2.out)
          go_wp2_with (first
            | ((with_reducible refine gate_builtin (b:=.append) (xs:=#[.tmp 97,.tmp 99]) rfl ?_);at_builtin;refine Kd.R_append kimg (w0:=w) w.heap.size rfl (.tmp 97) (.tmp 99) 129 102 (.agg #[.slice none 0 0,.bool false]) 32 rfl Try.underlying129 info102m rfl (by decide) (by omega) (.slice (some ⟨g,0,none⟩) s.length cc) s [.slice Al xl.1.length cl,.bool xl.2] [.slice Al xl.1.length cl,.bool xl.2] (fun k=>w3.heap.size ≤ k) (fun _=>False) rfl (by rw [set2_size];rfl) ⟨rfl,rfl,fun u hu=>by (simp at hu;rcases hu with rfl|rfl <;> rfl)⟩ (fun _ h=>h.elim) (fun k hk=>by have:=HLW.out;have:=HBWL.out.size;simp [World.setCell] at hk;omega) HOL.out HBL2.out (below_size HBL2.out) (by have:=HLS.out;have:=HSZ.out;have:=HI.out;omega) ?_;intro v1 w10 hR1 hb1 hg1 hat1;have HALL:=Aside0.mk (img_push HOL.out HPL.out HRL.out HBL2.out HKL.out HLO.out hR1 hg1 hat1);have HSZ10:=Aside0.mk hg1.size;clear hR1 hb1 hg1 hat1))
          rcases HQR.out with ⟨h,_⟩|⟨st',h1,h2⟩
          · cases h
          obtain rfl:=Option.some.inj h1
          have HRUN2:=Aside0.mk h2
          clear h1 h2
          go_roundw
          case rel=>exact ⟨i + 1,s ++ [[.slice Al xl.1.length cl,.bool xl.2]],t ++ [xl],congrArg _ HW.out,⟨HLT.out⟩,⟨HALL.out.1⟩,⟨HALL.out.2.1⟩,⟨by rw [List.length_append];have:=HLS.out;simp;omega⟩,HRUN2,⟨HALL.out.2.2.1⟩,⟨HALL.out.2.2.2⟩,⟨by have:=HSZ10.out;rw [set2_size] at this;have:=HBWL.out.size;have:=HLW.out;omega⟩⟩
          case measure=>rw [HW.out];simp only [intOf];have:=HLT.out;omega
        · have hci:(code[i]'hlt).toNat=42:=by rw [← hc];rfl
          have HX1:=Aside0.mk (fun W=>IndexByte_one 42 42 42 42 (by decide) (by decide) 0 (by decide) W)
          have HX2:=Aside0.mk (fun W=>IndexByte_one 46 42 42 42 (by decide) (by decide) (-1) (by decide) W)
          have HX3:=Aside0.mk (fun W=>IndexByte_one 43 42 42 42 (by decide) (by decide) (-1) (by decide) W)
          have hdn:decide ((bs.length:Int) < 1)=true:=decide_eq_true (by have:=HRP.out.1;omega)
          have hdn2:decide (bs.length < 1)=true:=decide_eq_true (by have:=HRP.out.1;omega)
          obtain ⟨q,hq,hqr⟩:=HRC.out
          rw [Mach.step_few _ _ _ _ (.inr ⟨rfl,by omega⟩)] at hq
          obtain rfl:=Option.some.inj hq
          have hr:r=none:=by
            rcases hqr with ⟨_,h⟩|⟨st',h1,_⟩
            · exact h
            · cases h1
          subst hr
          clear hq hqr HRC hc hii hiz hcap hen
          go_wp2_with (first
          | (go_at_call 91;(with_reducible refine (HX1.out _).mono ?_);rintro e w9 ⟨rfl,rfl⟩)
          | (go_at_call 91;(with_reducible refine (HX2.out _).mono ?_);rintro e w9 ⟨rfl,rfl⟩)
          | (go_at_call 91;(with_reducible refine (HX3.out _).mono ?_);rintro e w9 ⟨rfl,rfl⟩))
          refine bodyPost_ret (results_cell_tmp rfl _ _ g4 102 #[.slice none 0 0,.bool false] (0,0) _ rfl (blk_put (blk_put HBK.out.2.1 0 _ rfl) 1 _ rfl) Try.underlying102 rfl (by kernel_rfl)) rfl ?_
          exact imgPost_none (below_set (below_set HB.out HG40.out) HG40.out)
      · obtain ⟨n1,n2,n3,n4,n5,n6,n7⟩:=hoth
        have hcc:code[i]'hlt=c:=hc.symm
        have hpc:(0:Int) ≤ ((c.toNat:Nat):Int):=Int.natCast_nonneg _
        have HX1:=Aside0.mk (fun W=>IndexByte_one 42 c c ((c.toNat:Nat):Int) hpc (by simp) (-1) (by rw [if_neg (fun e=>n7 e.symm)]) W)
        have HX2:=Aside0.mk (fun W=>IndexByte_one 46 c c ((c.toNat:Nat):Int) hpc (by simp) (-1) (by rw [if_neg (fun e=>n5 e.symm)]) W)
        have HX3:=Aside0.mk (fun W=>IndexByte_one 43 c c ((c.toNat:Nat):Int) hpc (by simp) (-1) (by rw [if_neg (fun e=>n6 e.symm)]) W)
        have ne:∀ d:UInt8,c ≠ d → ((c.toNat:Int) == (d.toNat:Int))=false:=fun d h=>beq_eq_false_iff_ne.mpr (fun e=>h (UInt8.toNat_inj.mp (by omega)))
        have e1:((c.toNat:Int) == 97)=false:=ne 97 n1
        have e2:((c.toNat:Int) == 98)=false:=ne 98 n2
        have e3:((c.toNat:Int) == 99)=false:=ne 99 n3
        have e4:((c.toNat:Int) == 101)=false:=ne 101 n4
        have e5:((c.toNat:Int) == 46)=false:=ne 46 n5
        have e6:((c.toNat:Int) == 43)=false:=ne 43 n6
        have e7:((c.toNat:Int) == 42)=false:=ne 42 n7
        obtain ⟨q,hq,hqr⟩:=HRC.out
        rw [Mach.step_other _ _ _ _ ⟨n1,n2,n3,n4,n5,n6,n7⟩] at hq
        obtain rfl:=Option.some.inj hq
        have hr:r=none:=by
          rcases hqr with ⟨_,h⟩|⟨st',h1,_⟩
          · exact h
          · cases h1
        subst hr
        have hcut1:=cut_to (P:=Try.prog) 129 102 .i64 Try.underlying129 hii A bs.length cc (bs.length:Int) (by omega) (by omega) hcap
        have hcut2:=cut_from (P:=Try.prog) 129 102 .i64 Try.underlying129 hii 2 hiz.2.1 A bs.length cc (bs.length:Int) (by omega) (by omega)
        simp only [Int.toNat_natCast] at hcut1 hcut2
        generalize Value.slice (if cc=bs.length then A else A.map (·.add (bs.length * 2))) (bs.length - bs.length) (cc - bs.length)=vt at hcut2
        have hwn:wrap64 ((bs.length:Int) - 0)=(bs.length:Int):=by have:=HSZ.out;have:=HBL.out;unfold wrap64;omega
        have hwn2:wrap64 (bs.length:Int)=(bs.length:Int):=by have:=HSZ.out;have:=HBL.out;unfold wrap64;omega
        have hwk1:IntKind.i64.wrap ((bs.length:Int) - 0)=(bs.length:Int):=by have:=HSZ.out;have:=HBL.out;simp only [IntKind.wrap];simp [IntKind.signed,IntKind.bits];omega
        have hwk2:IntKind.i64.wrap (bs.length:Int)=(bs.length:Int):=by have:=HSZ.out;have:=HBL.out;simp only [IntKind.wrap];simp [IntKind.signed,IntKind.bits];omega
        have qn0:((0:Int) ≤ (bs.length:Int))=True:=eq_true (by omega)
        clear hq hqr HRC hc hii hiz hcap ne n1 n2 n3 n4 n5 n6 n7
        go_wp2_with (first
          | (go_at_call 91;(with_reducible refine (HX1.out _).mono ?_);rintro e w9 ⟨rfl,rfl⟩)
          | (go_at_call 91;(with_reducible refine (HX2.out _).mono ?_);rintro e w9 ⟨rfl,rfl⟩)
          | (go_at_call 91;(with_reducible refine (HX3.out _).mono ?_);rintro e w9 ⟨rfl,rfl⟩))
        go_region_held3 (fun _=>True) (trivial) (first|fail|fail)
        clear hcut1 hcut2
        go_wp2_with (first
          | ((with_reducible refine gate_dst (N:=13) rfl ?_);refine box_event ?hg (N:=13) ?hd (cs:=#[.slice none 0 0,.bool false]) (t:=102) ?hr ?_;(case hd=>rfl);(case hg=>rfl);(case hr=>first|(go_simp;done)|(go_simp;rfl));intro gx hgx wx hbox hb;have HBX:Aside0 (Below w9.heap.size w9 wx):=⟨below_step (by ((repeat (first|exact Below.refl _ _|apply Below.drew));done)) hb⟩;have hv0:wx.cell? ⟨g4,0,none⟩=some (.slice none 0 0):=(blk_cell (blk_below HBK.out.2.1 HBX.out) 0).trans rfl;have hv1:wx.cell? ⟨g4,1,none⟩=some (.bool false):=(blk_cell (blk_below HBK.out.2.1 HBX.out) 1).trans rfl;have hvf0:wx.frozen? ⟨g4,0,none⟩=false:=blk_frozen (blk_below HBK.out.2.1 HBX.out) 0;have hvf1:wx.frozen? ⟨g4,1,none⟩=false:=blk_frozen (blk_below HBK.out.2.1 HBX.out) 1;have hu0:wx.cell? ⟨g7,0,none⟩=some (.slice none 0 0):=(blk_cell (blk_below HBK.out.2.2 HBX.out) 0).trans rfl;have hu1:wx.cell? ⟨g7,1,none⟩=some (.bool false):=(blk_cell (blk_below HBK.out.2.2 HBX.out) 1).trans rfl;clear hb hbox hgx))
        refine bodyPost_ret (results_cell_tmp rfl _ _ g4 102 #[.slice none 0 0,.bool false] (0,0) _ rfl (blk_put (blk_put (blk_below HBK.out.2.1 HBX.out) 0 _ rfl) 1 _ rfl) Try.underlying102 rfl (by kernel_rfl)) rfl ?_
        exact imgPost_none (below_set (below_set (below_step HB.out HBX.out) HG40.out) HG40.out)
    · have hd:decide ((i:Int) < (code.size:Int))=false:=decide_eq_false (by omega)
      have hd0:decide (i < code.size)=false:=decide_eq_false hlt
      have hi:i=code.size:=by have:=HI.out;omega
      have hr0:runI k [] st=some r:=by
        have h:=HR.out
        rw [hi,show code.data.toList.drop code.size=[] from List.drop_eq_nil_of_le (Nat.le_of_eq HLEN.out.symm)] at h
        exact h
      have hr1:r=endI st:=endI_run hr0
      obtain ⟨A,cc,rfl⟩:=Kd.R_slice HO.out
      by_cases h1:bs.length=1
      · obtain ⟨b,rfl⟩:∃ b,bs=[b]:=List.length_eq_one_iff.mp h1
        obtain ⟨L,rfl⟩:∃ L,st=[L]:=List.length_eq_one_iff.mp (by have:=HRP.out.1;simpa using this.symm)
        obtain ⟨Aa,ca,oka,rfl,hla,hFa,hoka⟩:=HRP.out.2 0 b L rfl rfl
        obtain ⟨g,cap,ef,_,_,_⟩:=Kd.R_form HO.out (by simp)
        injection ef with e1 e2 e3
        subst e1
        obtain ⟨rw1,hq1,hq2,hq3⟩:=Kd.R_get HO.out [] (0:Int) (by omega) (by simp)
        obtain ⟨hq2,_,_⟩:=hq2
        have hq2':rw1=[.slice Aa L.1.length ca,.bool L.2]:=hq2
        subst hq2'
        have hx0:wr.cell? ⟨g,0,none⟩=some (.slice Aa L.1.length ca):=hq3 0 _ rfl
        have hx1:wr.cell? ⟨g,1,none⟩=some (.bool L.2):=hq3 1 _ rfl
        have HFA:=Aside0.mk hFa
        have HOA:=Aside0.mk hoka
        have HLA:=Aside0.mk hla
        have hr2:r=some L:=hr1
        subst hr2
        clear h1 hr0 hr1 hlt hi e2 e3 hq1 hq2 hq3 hFa hoka hla
        go_wp2
        refine bodyPost_ret (results_cell_tmp rfl _ _ g4 102 #[.slice Aa L.1.length ca,.bool L.2] (0,0) _ rfl (blk_put (blk_put HBK.out.2.1 0 _ rfl) 1 _ rfl) Try.underlying102 rfl (by kernel_rfl)) rfl ?_
        refine imgPost_some ?_ (below_set (below_set HB.out HG40.out) HG40.out)
        exact (Kd.V_mk HLA.out (Kd.F_mono (Kd.F_step (F_bound' HFA.out) (fun k hk hlt=>set2_heap _ _ _ (by have:=(HOA.out k hk.1).1;have:=HLO.out;omega) _ _)) (fun k hk=>by have:=(HOA.out k hk.1).1;have:=HW3.out;omega)))
      · have hr2:r=none:=by
          rw [hr1]
          exact endI_none (by have:=HRP.out.1;omega)
        subst hr2
        have hn1:((bs.length:Int) != 1)=true:=bne_iff_ne.mpr (by omega)
        have hn2:(bs.length != 1)=true:=bne_iff_ne.mpr h1
        clear h1 hr0 hr1 hlt hi
        go_wp2
        refine bodyPost_ret (results_cell_tmp rfl _ _ g4 102 #[.slice none 0 0,.bool false] (0,0) _ rfl (blk_put (blk_put HBK.out.2.1 0 _ rfl) 1 _ rfl) Try.underlying102 rfl (by kernel_rfl)) rfl ?_
        exact imgPost_none (below_set (below_set HB.out HG40.out) HG40.out)
def count_Image.f (k:Nat) (a0:ByteArray):Option (List S60 × Int):=if 30 < a0.size then some ([],3) else (runI k a0.data.toList []).bind fun r=>match r with|none=>some ([],2)|some x=>if x.2=true then some ([],7) else some (x.1,0)
theorem set4_below {w w1:World} {g:Nat} (hb:Below w.heap.size w w1) (hg:g=w.heap.size) (a b c d:Value):Below w.heap.size w ((((w1.setCell ⟨g,0,none⟩ a).setCell ⟨g,1,none⟩ b).setCell ⟨g,2,none⟩ c).setCell ⟨g,3,none⟩ d) :=
  below_set (below_set (below_set (below_set hb (by omega)) (by omega)) (by omega)) (by omega)
theorem runI_mono (k:Nat) (c:List UInt8) (st:List Img):LeO (runI k c st) (runI (k + 1) c st) :=
  mach_mono (fun _=>LeO.refl _) (fun a b=>count_Image_2.mono _ _ _ _ k) (fun a b=>count_Image_3.mono _ _ _ _ k) (fun a=>count_Image_4.mono _ _ k) c st
theorem count_Image.mono:∀ a0 k,LeO (count_Image.f k a0) (count_Image.f (k + 1) a0):=fun a0 k=>by
  unfold count_Image.f
  exact LeO.ite (LeO.refl _) (LeO.bind (runI_mono k _ _) (fun _=>LeO.refl _))
attribute [local go_sem] stf in
set_option maxHeartbeats 4000000 in
set_option maxRecDepth 100000 in
theorem count_Image.calls (k:Nat) (a0:ByteArray) (r1:List S60) (r2:Int) (w:World) (h:count_Image.f k a0=some (r1,r2)) :
    Calls Try.prog 29 #[.string a0] w fun e w'=>∃ v0_:Value,e=.returned (.tuple #[v0_,.int .i64 r2])∧Kd.V k60 60 w' w.heap.size (fun k_=>w.heap.size ≤ k_) v0_ r1∧Below w.heap.size w w':=by
  unfold count_Image.f at h
  by_cases h30:30 < a0.size
  · rw [if_pos h30] at h
    obtain ⟨rfl,rfl⟩:=Prod.mk.inj (Option.some.inj h)
    have hd:decide ((30:Int) < (a0.size:Int))=true:=decide_eq_true (by omega)
    have hd2:decide (30 < a0.size)=true:=decide_eq_true h30
    clear h
    go_enter Try.func29,Try.ntmps29
    go_wp2
    go_ret2
    exact ⟨_,rfl,Kd.V_nil _ _ _ _ _,Below.refl _ _⟩
  rw [if_neg h30] at h
  have hd:decide ((30:Int) < (a0.size:Int))=false:=decide_eq_false (by omega)
  have hd2:decide (30 < a0.size)=false:=decide_eq_false h30
  obtain ⟨q,hq,h⟩:=Option.bind_eq_some_iff.mp h
  have HRUNC:Aside0 (∀ W:World,_):=⟨fun W=>image_run.calls k a0 q W (by omega) hq⟩
  have hu109:=Try.underlying109
  have hu102:=Try.underlying102
  clear h30 hq
  cases q with
  | none =>
    obtain ⟨rfl,rfl⟩:=Prod.mk.inj (Option.some.inj h)
    clear h
    go_enter Try.func29,Try.ntmps29
    go_wp2_with (first
      | ((with_reducible refine gate_dst (N:=4) rfl ?_);refine box_event ?hg (N:=4) ?hd (cs:=#[.nilFunc,.nilFunc,.nilFunc,.nilFunc]) (t:=109) ?hr ?_;(case hd=>rfl);(case hg=>rfl);(case hr=>first|(go_simp;done)|(go_simp;rfl));intro gb hgb w7 hbox hb;have HS4:=Aside0.mk (set4_below hb hgb (.func (.func 64) #[] #[]) (.func (.func 65) #[] #[]) (.func (.func 68) #[] #[]) (.func (.func 70) #[] #[]));have hdz0:w7.cell? ⟨gb,0,none⟩=some .nilFunc:=(blk_cell hbox 0).trans rfl;have hdz1:w7.cell? ⟨gb,1,none⟩=some .nilFunc:=(blk_cell hbox 1).trans rfl;have hdz2:w7.cell? ⟨gb,2,none⟩=some .nilFunc:=(blk_cell hbox 2).trans rfl;have hdz3:w7.cell? ⟨gb,3,none⟩=some .nilFunc:=(blk_cell hbox 3).trans rfl;have hdf0:w7.frozen? ⟨gb,0,none⟩=false:=blk_frozen hbox 0;have hdf1:w7.frozen? ⟨gb,1,none⟩=false:=blk_frozen hbox 1;have hdf2:w7.frozen? ⟨gb,2,none⟩=false:=blk_frozen hbox 2;have hdf3:w7.frozen? ⟨gb,3,none⟩=false:=blk_frozen hbox 3;clear hb hbox hgb)
      | (go_at_call 72;(with_reducible refine (HRUNC.out _).mono ?_);rintro e w8 ⟨v8,f8,rfl,hsome,hnone,hb8⟩;obtain rfl:=hnone rfl;have HB8:=Aside0.mk (below_step HS4.out hb8);clear hb8 hsome hnone)
      | ((with_reducible refine gate_dst (N:=5) rfl ?_);refine box_event ?hg (N:=5) ?hd (cs:=#[.slice none 0 0,.bool false]) (t:=102) ?hr ?_;(case hd=>rfl);(case hg=>rfl);(case hr=>first|(go_simp;done)|(go_simp;rfl));intro g5 hg5 w9 hbox hb;have HG5:=Aside0.mk hg5;have HB9:=Aside0.mk hb;have hez0:w9.cell? ⟨g5,0,none⟩=some (.slice none 0 0):=(blk_cell hbox 0).trans rfl;have hez1:w9.cell? ⟨g5,1,none⟩=some (.bool false):=(blk_cell hbox 1).trans rfl;have hef0:w9.frozen? ⟨g5,0,none⟩=false:=blk_frozen hbox 0;have hef1:w9.frozen? ⟨g5,1,none⟩=false:=blk_frozen hbox 1;clear hb hbox hg5))
    go_ret2
    exact ⟨_,rfl,Kd.V_nil _ _ _ _ _,below_set (below_set (below_step HB8.out HB9.out) (by have:=HG5.out;have:=HB8.out.size;omega)) (by have:=HG5.out;have:=HB8.out.size;omega)⟩
  | some x =>
    obtain ⟨l,f⟩:=x
    cases f with
    | true =>
      obtain ⟨rfl,rfl⟩:=Prod.mk.inj (Option.some.inj h)
      clear h
      go_enter Try.func29,Try.ntmps29
      go_wp2_with (first
        | ((with_reducible refine gate_dst (N:=4) rfl ?_);refine box_event ?hg (N:=4) ?hd (cs:=#[.nilFunc,.nilFunc,.nilFunc,.nilFunc]) (t:=109) ?hr ?_;(case hd=>rfl);(case hg=>rfl);(case hr=>first|(go_simp;done)|(go_simp;rfl));intro gb hgb w7 hbox hb;have HS4:=Aside0.mk (set4_below hb hgb (.func (.func 64) #[] #[]) (.func (.func 65) #[] #[]) (.func (.func 68) #[] #[]) (.func (.func 70) #[] #[]));have hdz0:w7.cell? ⟨gb,0,none⟩=some .nilFunc:=(blk_cell hbox 0).trans rfl;have hdz1:w7.cell? ⟨gb,1,none⟩=some .nilFunc:=(blk_cell hbox 1).trans rfl;have hdz2:w7.cell? ⟨gb,2,none⟩=some .nilFunc:=(blk_cell hbox 2).trans rfl;have hdz3:w7.cell? ⟨gb,3,none⟩=some .nilFunc:=(blk_cell hbox 3).trans rfl;have hdf0:w7.frozen? ⟨gb,0,none⟩=false:=blk_frozen hbox 0;have hdf1:w7.frozen? ⟨gb,1,none⟩=false:=blk_frozen hbox 1;have hdf2:w7.frozen? ⟨gb,2,none⟩=false:=blk_frozen hbox 2;have hdf3:w7.frozen? ⟨gb,3,none⟩=false:=blk_frozen hbox 3;clear hb hbox hgb)
        | (go_at_call 72;(with_reducible refine (HRUNC.out _).mono ?_);rintro e w8 ⟨v8,f8,rfl,hsome,hnone,hb8⟩;obtain ⟨rfl,A8,c8,rfl,hl8,hF8⟩:=hsome _ rfl;have HL8:=Aside0.mk hl8;have HF8:=Aside0.mk hF8;clear hl8 hF8;have HB8:=Aside0.mk (below_step HS4.out hb8);clear hb8 hsome hnone)
        | ((with_reducible refine gate_dst (N:=5) rfl ?_);refine box_event ?hg (N:=5) ?hd (cs:=#[.slice none 0 0,.bool false]) (t:=102) ?hr ?_;(case hd=>rfl);(case hg=>rfl);(case hr=>first|(go_simp;done)|(go_simp;rfl));intro g5 hg5 w9 hbox hb;have HG5:=Aside0.mk hg5;have HB9:=Aside0.mk hb;have hez0:w9.cell? ⟨g5,0,none⟩=some (.slice none 0 0):=(blk_cell hbox 0).trans rfl;have hez1:w9.cell? ⟨g5,1,none⟩=some (.bool false):=(blk_cell hbox 1).trans rfl;have hef0:w9.frozen? ⟨g5,0,none⟩=false:=blk_frozen hbox 0;have hef1:w9.frozen? ⟨g5,1,none⟩=false:=blk_frozen hbox 1;clear hb hbox hg5))
      go_ret2
      exact ⟨_,rfl,Kd.V_nil _ _ _ _ _,below_set (below_set (below_step HB8.out HB9.out) (by have:=HG5.out;have:=HB8.out.size;omega)) (by have:=HG5.out;have:=HB8.out.size;omega)⟩
    | false =>
      obtain ⟨rfl,rfl⟩:=Prod.mk.inj (Option.some.inj h)
      clear h
      go_enter Try.func29,Try.ntmps29
      go_wp2_with (first
        | ((with_reducible refine gate_dst (N:=4) rfl ?_);refine box_event ?hg (N:=4) ?hd (cs:=#[.nilFunc,.nilFunc,.nilFunc,.nilFunc]) (t:=109) ?hr ?_;(case hd=>rfl);(case hg=>rfl);(case hr=>first|(go_simp;done)|(go_simp;rfl));intro gb hgb w7 hbox hb;have HS4:=Aside0.mk (set4_below hb hgb (.func (.func 64) #[] #[]) (.func (.func 65) #[] #[]) (.func (.func 68) #[] #[]) (.func (.func 70) #[] #[]));have hdz0:w7.cell? ⟨gb,0,none⟩=some .nilFunc:=(blk_cell hbox 0).trans rfl;have hdz1:w7.cell? ⟨gb,1,none⟩=some .nilFunc:=(blk_cell hbox 1).trans rfl;have hdz2:w7.cell? ⟨gb,2,none⟩=some .nilFunc:=(blk_cell hbox 2).trans rfl;have hdz3:w7.cell? ⟨gb,3,none⟩=some .nilFunc:=(blk_cell hbox 3).trans rfl;have hdf0:w7.frozen? ⟨gb,0,none⟩=false:=blk_frozen hbox 0;have hdf1:w7.frozen? ⟨gb,1,none⟩=false:=blk_frozen hbox 1;have hdf2:w7.frozen? ⟨gb,2,none⟩=false:=blk_frozen hbox 2;have hdf3:w7.frozen? ⟨gb,3,none⟩=false:=blk_frozen hbox 3;clear hb hbox hgb)
        | (go_at_call 72;(with_reducible refine (HRUNC.out _).mono ?_);rintro e w8 ⟨v8,f8,rfl,hsome,hnone,hb8⟩;obtain ⟨rfl,A8,c8,rfl,hl8,hF8⟩:=hsome _ rfl;have HL8:=Aside0.mk hl8;have HF8:=Aside0.mk hF8;clear hl8 hF8;have HB8:=Aside0.mk (below_step HS4.out hb8);clear hb8 hsome hnone)
        | ((with_reducible refine gate_dst (N:=5) rfl ?_);refine box_event ?hg (N:=5) ?hd (cs:=#[.slice none 0 0,.bool false]) (t:=102) ?hr ?_;(case hd=>rfl);(case hg=>rfl);(case hr=>first|(go_simp;done)|(go_simp;rfl));intro g5 hg5 w9 hbox hb;have HG5:=Aside0.mk hg5;have HB9:=Aside0.mk hb;have hez0:w9.cell? ⟨g5,0,none⟩=some (.slice none 0 0):=(blk_cell hbox 0).trans rfl;have hez1:w9.cell? ⟨g5,1,none⟩=some (.bool false):=(blk_cell hbox 1).trans rfl;have hef0:w9.frozen? ⟨g5,0,none⟩=false:=blk_frozen hbox 0;have hef1:w9.frozen? ⟨g5,1,none⟩=false:=blk_frozen hbox 1;clear hb hbox hg5))
      go_ret2
      exact ⟨_,rfl,Kd.V_mk HL8.out (Kd.F_mono (ok:=fun k=>w.heap.size ≤ k∧k < w8.heap.size) (Kd.F_step (Kd.F_below (F_bound' (Kd.F_mono HF8.out (fun k hk=>Nat.le_trans HS4.out.size hk))) HB9.out) (fun k hk hlt=>set2_heap _ _ _ (by have:=HG5.out;omega) _ _)) (fun k hk=>hk.1)),below_set (below_set (below_step HB8.out HB9.out) (by have:=HG5.out;have:=HB8.out.size;omega)) (by have:=HG5.out;have:=HB8.out.size;omega)⟩
mutual
def bellpullref01_Before.l0:Nat → List Int → List Int → Int → Option (Bool)
  | 0,_,_,_=>none
  | k + 1,x0,x1,x5=>if x5 < (x0.length:Int) then (bellpullref01_Before.j1 k x0 x1 x5 (decide (x5 < (x1.length:Int)))) else (bellpullref01_Before.j1 k x0 x1 x5 false)
def bellpullref01_Before.j1:Nat → List Int → List Int → Int → Bool → Option (Bool)
  | 0,_,_,_,_=>none
  | k + 1,x0,x1,x5,x15=>if x15=true then (if 0 ≤ x5 then (if x5 < (x0.length:Int) then (if x5 < (x1.length:Int) then (if (rd x0 x5)=(rd x1 x5) then (bellpullref01_Before.l0 k x0 x1 (wrap64 (x5 + 1))) else (some (decide ((rd x0 x5) < (rd x1 x5))))) else (none)) else (none)) else (none)) else (some (decide ((x0.length:Int) < (x1.length:Int))))
end
def bellpullref01_Before.f (k:Nat) (l0:List Int) (l1:List Int):Option (Bool):=bellpullref01_Before.l0 k l0 l1 0
theorem bellpullref01_Before.mono_l:∀ k,(∀ y0 y1 y2,LeO (bellpullref01_Before.l0 k y0 y1 y2) (bellpullref01_Before.l0 (k + 1) y0 y1 y2))∧(∀ y0 y1 y2 y3,LeO (bellpullref01_Before.j1 k y0 y1 y2 y3) (bellpullref01_Before.j1 (k + 1) y0 y1 y2 y3))
  | 0=>⟨fun _ _ _ r h=>by simp [bellpullref01_Before.l0] at h,fun _ _ _ _ r h=>by simp [bellpullref01_Before.j1] at h⟩
  | k + 1=>by
    obtain ⟨ih0,ih1⟩:=bellpullref01_Before.mono_l k
    refine ⟨?_,?_⟩
    · intro y0 y1 y2
      unfold bellpullref01_Before.l0
      with_reducible repeat' first|exact ih0 _ _ _|exact ih1 _ _ _ _|exact LeO.refl _|exact LeO.none _|refine LeO.ite ?_ ?_|refine LeO.bind ?_ (fun _=>?_)
    · intro y0 y1 y2 y3
      unfold bellpullref01_Before.j1
      with_reducible repeat' first|exact ih0 _ _ _|exact ih1 _ _ _ _|exact LeO.refl _|exact LeO.none _|refine LeO.ite ?_ ?_|refine LeO.bind ?_ (fun _=>?_)
theorem bellpullref01_Before.mono:∀ a0 a1 k,LeO (bellpullref01_Before.f k a0 a1) (bellpullref01_Before.f (k + 1) a0 a1):=by
  intro a0 a1 k
  obtain ⟨ih0,ih1⟩:=bellpullref01_Before.mono_l k
  unfold bellpullref01_Before.f
  with_reducible repeat' first|exact ih0 _ _ _|exact ih1 _ _ _ _|exact LeO.refl _|exact LeO.none _|refine LeO.ite ?_ ?_|refine LeO.bind ?_ (fun _=>?_)
set_option maxHeartbeats 8000000 in
set_option maxRecDepth 100000 in
theorem bellpullref01_Before.calls (k:Nat) (A0:Option Addr) (c0:Nat) (l0:List Int) (A1:Option Addr) (c1:Nat) (l1:List Int) (r:Bool) (w:World) (hr0:Kd.C (Kd.int .i64) w A0 l0.length l0) (hc0:l0.length ≤ c0) (hr1:Kd.C (Kd.int .i64) w A1 l1.length l1) (hc1:l1.length ≤ c1) (h:bellpullref01_Before.f k l0 l1=some r) :
    Calls Try.prog 47 #[.slice A0 l0.length c0,.slice A1 l1.length c1] w fun e w'=>e=.returned (.bool r)∧Drawn0 w w':=by
 have HR0:=mk0 hr0;have HC0:=mk0 hc0;clear hr0 hc0;have HR1:=mk0 hr1;have HC1:=mk0 hc1;clear hr1 hc1;have H:(bellpullref01_Before.l0 k l0 l1 0)=some r:=h;clear h;have H':=mk0 H;clear H;go_enter Try.func47,Try.ntmps47;go_wp2;repeat (go_quiet (fail);try go_wp2)
 go_loopg [5] k (fun kq v5 w'=>∃ (x5_1:Int),v5=.int .i64 x5_1∧Aside0 (bellpullref01_Before.l0 kq l0 l1 x5_1=some r)∧Aside0 (kq ≤ k)∧Drawn0 w w')
 case atStart=>exact ⟨(0),(by first|rfl|(simp;done)|(simp [*];done)),H',⟨Nat.le_refl _⟩,by repeat (first|exact Drawn0.refl _|apply Drawn0.step)⟩
 case round =>
  clear H';try clear c1
  try clear p2
  obtain ⟨x5_1,rfl,HA,HK1,⟨m1,rfl⟩⟩:=hrel;cases gk with
  | zero=>exact absurd HA.out (by simp [bellpullref01_Before.l0])
  | succ k1 =>
   have H:=HA.out;clear HA;simp only [bellpullref01_Before.l0] at H;have HC3:=mk0 H;clear H;go_upto_region 2 with (fail);repeat (go_quiet (fail);go_upto_region 2 with (fail))
   go_cut [15] (fun v15 wc=>∃ (kq:Nat) (x15_2:Bool),v15=.bool x15_2∧Aside0 (bellpullref01_Before.j1 kq l0 l1 x5_1 x15_2=some r)∧Aside0 (kq ≤ k1)∧Drawn0 w wc)
   case first =>
    have H:=HC3.out;clear HC3
    by_cases c4:x5_1 < (l0.length:Int)
    ·
     rw [if_pos c4] at H;have c4b0:decide (x5_1 < (l0.length:Int))=true:=decide_eq_true c4;clear c4;(first|rw [c4b0]|(simp only [i64_w,i32_w];rw [c4b0])|skip);have H':=mk0 H;clear H;go_wp2;repeat (go_quiet (fail);try go_wp2)
     go_meet
     case rel=>exact ⟨_,(decide (x5_1 < (l1.length:Int))),(by first|rfl|(simp;done)|(simp [*];done)),H',⟨by have:=HK1.out;first|omega|exact Nat.le_refl _⟩,by repeat (first|exact Drawn0.refl _|apply Drawn0.step)⟩
    ·
     rw [if_neg c4] at H;have c4b0:decide (x5_1 < (l0.length:Int))=false:=decide_eq_false c4;clear c4;(first|rw [c4b0]|(simp only [i64_w,i32_w];rw [c4b0])|skip);have H':=mk0 H;clear H;go_wp2;repeat (go_quiet (fail);try go_wp2)
     go_meet
     case rel=>exact ⟨_,(false),(by first|rfl|(simp;done)|(simp [*];done)),H',⟨by have:=HK1.out;first|omega|exact Nat.le_refl _⟩,by repeat (first|exact Drawn0.refl _|apply Drawn0.step)⟩
   case rest =>
    clear HC3;try clear c1
    try clear p2
    try clear c4
    try clear c4b0
    try clear p2
    obtain ⟨kq,x15_2,rfl,HA,HJ2,⟨mc2,rfl⟩⟩:=hcut;cases kq with
    | zero=>exact absurd HA.out (by simp [bellpullref01_Before.j1])
    | succ kj2 =>
     have H:=HA.out;clear HA;simp only [bellpullref01_Before.j1] at H
     by_cases c5:x15_2=true
     ·
      subst c5;have H1:(if 0 ≤ x5_1 then (if x5_1 < (l0.length:Int) then (if x5_1 < (l1.length:Int) then (if (rd l0 x5_1)=(rd l1 x5_1) then (bellpullref01_Before.l0 kj2 l0 l1 (wrap64 (x5_1 + 1))) else (some (decide ((rd l0 x5_1) < (rd l1 x5_1))))) else (none)) else (none)) else (none))=some r:=by rw [if_pos rfl] at H;exact H
      clear H;have H:=H1;clear H1
      by_cases c6:0 ≤ x5_1
      ·
       rw [if_pos c6] at H;have c6b0:decide (0 ≤ x5_1)=true:=decide_eq_true c6;clear c6
       by_cases c7:x5_1 < (l0.length:Int)
       ·
        rw [if_pos c7] at H;have c7b0:decide (x5_1 < (l0.length:Int))=true:=decide_eq_true c7;clear c7
        by_cases c8:x5_1 < (l1.length:Int)
        ·
         rw [if_pos c8] at H;have c8b0:decide (x5_1 < (l1.length:Int))=true:=decide_eq_true c8;clear c8
         by_cases c9:(rd l0 x5_1)=(rd l1 x5_1)
         ·
          rw [if_pos c9] at H;have c9b0:((rd l0 x5_1) == (rd l1 x5_1))=true:=beq_iff_eq.mpr c9;have c9b1:((rd l0 x5_1) != (rd l1 x5_1))=false:=bne_eq_false_iff_eq.mpr c9;clear c9;have H':=mk0 H;clear H;have p237:0 ≤ (x5_1:Int):=of_decide_eq_true (by first|(with_reducible assumption)|assumption);have q237:x5_1 < (l0.length:Int):=of_decide_eq_true (by first|(with_reducible assumption)|assumption);obtain ⟨ad237,e237,hx237_0⟩:=Kd.at_int HR0.out x5_1 p237 q237;cases e237;replace p237:=eq_true p237;replace q237:=eq_true q237;have p238:0 ≤ (x5_1:Int):=of_decide_eq_true (by first|(with_reducible assumption)|assumption);have q238:x5_1 < (l1.length:Int):=of_decide_eq_true (by first|(with_reducible assumption)|assumption);obtain ⟨ad238,e238,hx238_0⟩:=Kd.at_int HR1.out x5_1 p238 q238;cases e238;replace p238:=eq_true p238;replace q238:=eq_true q238;go_wp2;repeat (go_quiet (fail);try go_wp2)
          go_roundg kj2
          case measure=>have:=HK1.out;have:=HJ2.out;omega
          case rel=>exact ⟨(wrap64 (x5_1 + 1)),(by first|rfl|(simp;done)|(simp [*];done)),H',⟨by have:=HK1.out;have:=HJ2.out;omega⟩,by repeat (first|exact Drawn0.refl _|apply Drawn0.step)⟩
         ·
          rw [if_neg c9] at H;have c9b0:((rd l0 x5_1) == (rd l1 x5_1))=false:=beq_eq_false_iff_ne.mpr c9;have c9b1:((rd l0 x5_1) != (rd l1 x5_1))=true:=bne_iff_ne.mpr c9;obtain rfl:=Option.some.inj H;have p237:0 ≤ (x5_1:Int):=of_decide_eq_true (by first|(with_reducible assumption)|assumption);have q237:x5_1 < (l0.length:Int):=of_decide_eq_true (by first|(with_reducible assumption)|assumption);obtain ⟨ad237,e237,hx237_0⟩:=Kd.at_int HR0.out x5_1 p237 q237;cases e237;replace p237:=eq_true p237;replace q237:=eq_true q237;have p238:0 ≤ (x5_1:Int):=of_decide_eq_true (by first|(with_reducible assumption)|assumption);have q238:x5_1 < (l1.length:Int):=of_decide_eq_true (by first|(with_reducible assumption)|assumption);obtain ⟨ad238,e238,hx238_0⟩:=Kd.at_int HR1.out x5_1 p238 q238;cases e238;replace p238:=eq_true p238;replace q238:=eq_true q238;have p239:0 ≤ (x5_1:Int):=of_decide_eq_true (by first|(with_reducible assumption)|assumption);have q239:x5_1 < (l0.length:Int):=of_decide_eq_true (by first|(with_reducible assumption)|assumption);obtain ⟨ad239,e239,hx239_0⟩:=Kd.at_int HR0.out x5_1 p239 q239;obtain rfl:ad237=ad239:=(by injection e239)
          replace p239:=eq_true p239;replace q239:=eq_true q239;have p240:0 ≤ (x5_1:Int):=of_decide_eq_true (by first|(with_reducible assumption)|assumption);have q240:x5_1 < (l1.length:Int):=of_decide_eq_true (by first|(with_reducible assumption)|assumption);obtain ⟨ad240,e240,hx240_0⟩:=Kd.at_int HR1.out x5_1 p240 q240;obtain rfl:ad238=ad240:=(by injection e240)
          replace p240:=eq_true p240;replace q240:=eq_true q240;go_wp2;repeat (go_quiet (fail);try go_wp2)
          go_ret;exact ⟨by first|rfl|(simp;done)|(simp [*];done),by repeat (first|exact Drawn0.refl _|apply Drawn0.step)⟩
        ·
         rw [if_neg c8] at H;exact absurd H (by simp)
       ·
        rw [if_neg c7] at H;exact absurd H (by simp)
      ·
       rw [if_neg c6] at H;exact absurd H (by simp)
     ·
      replace c5:=Bool.eq_false_iff.mpr c5;subst c5;have H1:(some (decide ((l0.length:Int) < (l1.length:Int))))=some r:=by rw [if_neg (show ¬ (false=true) by decide)] at H;exact H
      clear H;have H:=H1;clear H1;obtain rfl:=Option.some.inj H;go_wp2;repeat (go_quiet (fail);try go_wp2)
      go_ret;exact ⟨by first|rfl|(simp;done)|(simp [*];done),by repeat (first|exact Drawn0.refl _|apply Drawn0.step)⟩
def bellpullref01_Same.f (k:Nat) (l0:List Int) (l1:List Int):Option (Bool):=(bellpullref01_Before.f k l0 l1).bind fun t241=>(if t241=true then (some false) else ((bellpullref01_Before.f k l1 l0).bind fun t242=>(some (!t242))))
theorem bellpullref01_Same.mono:∀ a0 a1 k,LeO (bellpullref01_Same.f k a0 a1) (bellpullref01_Same.f (k + 1) a0 a1):=by
  intro a0 a1 k
  unfold bellpullref01_Same.f
  with_reducible repeat' first|exact bellpullref01_Before.mono _ _ _|exact LeO.refl _|exact LeO.none _|refine LeO.ite ?_ ?_|refine LeO.bind ?_ (fun _=>?_)
set_option maxHeartbeats 8000000 in
set_option maxRecDepth 100000 in
theorem bellpullref01_Same.calls (k:Nat) (A0:Option Addr) (c0:Nat) (l0:List Int) (A1:Option Addr) (c1:Nat) (l1:List Int) (r:Bool) (w:World) (hr0:Kd.C (Kd.int .i64) w A0 l0.length l0) (hc0:l0.length ≤ c0) (hr1:Kd.C (Kd.int .i64) w A1 l1.length l1) (hc1:l1.length ≤ c1) (h:bellpullref01_Same.f k l0 l1=some r) :
    Calls Try.prog 44 #[.slice A0 l0.length c0,.slice A1 l1.length c1] w fun e w'=>e=.returned (.bool r)∧Drawn0 w w':=by
 have HR0:=mk0 hr0;have HC0:=mk0 hc0;clear hr0 hc0;have HR1:=mk0 hr1;have HC1:=mk0 hc1;clear hr1 hc1;have H:((bellpullref01_Before.f k l0 l1).bind fun t241=>(if t241=true then (some false) else ((bellpullref01_Before.f k l1 l0).bind fun t242=>(some (!t242)))))=some r:=h;clear h;replace H:=Option.bind_eq_some_iff.mp H;obtain ⟨t241,A30,H⟩:=H;(try dsimp only at H);have A3:=mk0 A30;clear A30
 by_cases c4:t241=true
 ·
  subst c4;have H1:(some false)=some r:=by rw [if_pos rfl] at H;exact H
  clear H;have H:=H1;clear H1;obtain rfl:=Option.some.inj H;go_enter Try.func44,Try.ntmps44;go_wp2_with (first|((with_reducible refine gate_callee (f:=47) rfl ?_);refine goesL_ (some 7) rfl rfl Try.func47 (by kernel_rfl) rfl #[.slice A0 l0.length c0,.slice A1 l1.length c1] rfl (by (try simp only [List.map_toArray,List.map_cons,List.map_nil]);first|done|rfl|(simp only [List.length_drop,List.length_take];rfl)) ?_;(with_reducible refine (bellpullref01_Before.calls k _ _ l0 _ _ l1 true _ ?side1 ?side2 ?side3 ?side4 A3.out).mono ?_);(case side1=>repeat (first|exact HR0.out|(with_reducible refine Kd.C_alloc ?_ _)|(with_reducible refine Kd.C_drewN ?_ _)|(with_reducible refine Kd.C_drew ?_)));(case side2=>exact HC0.out);(case side3=>repeat (first|exact HR1.out|(with_reducible refine Kd.C_alloc ?_ _)|(with_reducible refine Kd.C_drewN ?_ _)|(with_reducible refine Kd.C_drew ?_)));(case side4=>exact HC1.out);rintro e w' ⟨rfl,⟨nd,rfl⟩⟩;refine ⟨_,rfl,?_⟩));go_ret;exact ⟨by first|rfl|(simp;done)|(simp [*];done),by repeat (first|exact Drawn0.refl _|apply Drawn0.step)⟩
 ·
  replace c4:=Bool.eq_false_iff.mpr c4;subst c4;have H1:((bellpullref01_Before.f k l1 l0).bind fun t242=>(some (!t242)))=some r:=by rw [if_neg (show ¬ (false=true) by decide)] at H;exact H
  clear H;have H:=H1;clear H1;replace H:=Option.bind_eq_some_iff.mp H;obtain ⟨t242,A50,H⟩:=H;(try dsimp only at H);have A5:=mk0 A50;clear A50;obtain rfl:=Option.some.inj H;go_enter Try.func44,Try.ntmps44;go_wp2_with (first|((with_reducible refine gate_callee (f:=47) rfl ?_);refine goesL_ (some 7) rfl rfl Try.func47 (by kernel_rfl) rfl #[.slice A0 l0.length c0,.slice A1 l1.length c1] rfl (by (try simp only [List.map_toArray,List.map_cons,List.map_nil]);first|done|rfl|(simp only [List.length_drop,List.length_take];rfl)) ?_;(with_reducible refine (bellpullref01_Before.calls k _ _ l0 _ _ l1 false _ ?side1 ?side2 ?side3 ?side4 A3.out).mono ?_);(case side1=>repeat (first|exact HR0.out|(with_reducible refine Kd.C_alloc ?_ _)|(with_reducible refine Kd.C_drewN ?_ _)|(with_reducible refine Kd.C_drew ?_)));(case side2=>exact HC0.out);(case side3=>repeat (first|exact HR1.out|(with_reducible refine Kd.C_alloc ?_ _)|(with_reducible refine Kd.C_drewN ?_ _)|(with_reducible refine Kd.C_drew ?_)));(case side4=>exact HC1.out);rintro e w' ⟨rfl,⟨nd,rfl⟩⟩;refine ⟨_,rfl,?_⟩)|(go_at_call 47;(with_reducible refine (bellpullref01_Before.calls k _ _ l1 _ _ l0 t242 _ ?side1 ?side2 ?side3 ?side4 A5.out).mono ?_);(case side1=>repeat (first|exact HR1.out|(with_reducible refine Kd.C_alloc ?_ _)|(with_reducible refine Kd.C_drewN ?_ _)|(with_reducible refine Kd.C_drew ?_)));(case side2=>exact HC1.out);(case side3=>repeat (first|exact HR0.out|(with_reducible refine Kd.C_alloc ?_ _)|(with_reducible refine Kd.C_drewN ?_ _)|(with_reducible refine Kd.C_drew ?_)));(case side4=>exact HC0.out);rintro e w' ⟨rfl,⟨nd,rfl⟩⟩));go_ret;exact ⟨by first|rfl|(simp;done)|(simp [*];done),by repeat (first|exact Drawn0.refl _|apply Drawn0.step)⟩
def bellpullref01_SameLists.l0:Nat → List (List Int) → List (List Int) → Int → Option (Bool)
  | 0,_,_,_=>none
  | k + 1,x0,x1,x5=>if x5 < (x0.length:Int) then (if 0 ≤ x5 then (if x5 < (x1.length:Int) then ((bellpullref01_Same.f k (rd_L1 x0 x5) (rd_L1 x1 x5)).bind fun t245=>(if t245=true then (bellpullref01_SameLists.l0 k x0 x1 (wrap64 (x5 + 1))) else (some false))) else (none)) else (none)) else (some true)
def bellpullref01_SameLists.f (k:Nat) (l0:List (List Int)) (l1:List (List Int)):Option (Bool):=if (l0.length:Int)=(l1.length:Int) then (bellpullref01_SameLists.l0 k l0 l1 0) else (some false)
theorem bellpullref01_SameLists.mono_l:∀ k,(∀ y0 y1 y2,LeO (bellpullref01_SameLists.l0 k y0 y1 y2) (bellpullref01_SameLists.l0 (k + 1) y0 y1 y2))
  | 0=>fun _ _ _ r h=>by simp [bellpullref01_SameLists.l0] at h
  | k + 1=>by
    have ih0:=bellpullref01_SameLists.mono_l k
    · intro y0 y1 y2
      unfold bellpullref01_SameLists.l0
      with_reducible repeat' first|exact ih0 _ _ _|exact bellpullref01_Same.mono _ _ _|exact LeO.refl _|exact LeO.none _|refine LeO.ite ?_ ?_|refine LeO.bind ?_ (fun _=>?_)
theorem bellpullref01_SameLists.mono:∀ a0 a1 k,LeO (bellpullref01_SameLists.f k a0 a1) (bellpullref01_SameLists.f (k + 1) a0 a1):=by
  intro a0 a1 k
  have ih0:=bellpullref01_SameLists.mono_l k
  unfold bellpullref01_SameLists.f
  with_reducible repeat' first|exact ih0 _ _ _|exact bellpullref01_Same.mono _ _ _|exact LeO.refl _|exact LeO.none _|refine LeO.ite ?_ ?_|refine LeO.bind ?_ (fun _=>?_)
set_option maxHeartbeats 8000000 in
set_option maxRecDepth 100000 in
theorem bellpullref01_SameLists.calls (k:Nat) (A0:Option Addr) (c0:Nat) (l0:List (List Int)) (A1:Option Addr) (c1:Nat) (l1:List (List Int)) (r:Bool) (w:World) (hr0:Kd.C (Kd.slice 3 (Kd.int .i64)) w A0 l0.length l0) (hc0:l0.length ≤ c0) (hr1:Kd.C (Kd.slice 3 (Kd.int .i64)) w A1 l1.length l1) (hc1:l1.length ≤ c1) (h:bellpullref01_SameLists.f k l0 l1=some r) :
    Calls Try.prog 74 #[.slice A0 l0.length c0,.slice A1 l1.length c1] w fun e w'=>e=.returned (.bool r)∧Drawn0 w w':=by
 have HR0:=mk0 hr0;have HC0:=mk0 hc0;clear hr0 hc0;have HR1:=mk0 hr1;have HC1:=mk0 hc1;clear hr1 hc1;have H:(if (l0.length:Int)=(l1.length:Int) then (bellpullref01_SameLists.l0 k l0 l1 0) else (some false))=some r:=h;clear h
 by_cases c3:(l0.length:Int)=(l1.length:Int)
 ·
  rw [if_pos c3] at H;have c3b0:((l0.length:Int) == (l1.length:Int))=true:=beq_iff_eq.mpr c3;have c3b1:((l0.length:Int) != (l1.length:Int))=false:=bne_eq_false_iff_eq.mpr c3;have c3b2:(l0.length == l1.length)=true:=by first|simpa using c3|(simp at c3 ⊢;omega)
  clear c3;have H':=mk0 H;clear H;go_enter Try.func74,Try.ntmps74;go_wp2;repeat (go_quiet (fail);try go_wp2)
  go_loopg [5] k (fun kq v5 w'=>∃ (x5_1:Int),v5=.int .i64 x5_1∧Aside0 (bellpullref01_SameLists.l0 kq l0 l1 x5_1=some r)∧Aside0 (kq ≤ k)∧Drawn0 w w')
  case atStart=>exact ⟨(0),(by first|rfl|(simp;done)|(simp [*];done)),H',⟨Nat.le_refl _⟩,by repeat (first|exact Drawn0.refl _|apply Drawn0.step)⟩
  case round =>
   clear H';try clear c1
   try clear p2
   try clear c3
   try clear c3b0
   try clear c3b1
   try clear c3b2
   obtain ⟨x5_1,rfl,HA,HK1,⟨m1,rfl⟩⟩:=hrel;cases gk with
   | zero=>exact absurd HA.out (by simp [bellpullref01_SameLists.l0])
   | succ k1 =>
    have H:=HA.out;clear HA;simp only [bellpullref01_SameLists.l0] at H
    by_cases c4:x5_1 < (l0.length:Int)
    ·
     rw [if_pos c4] at H;have c4b0:decide (x5_1 < (l0.length:Int))=true:=decide_eq_true c4;clear c4
     by_cases c5:0 ≤ x5_1
     ·
      rw [if_pos c5] at H;have c5b0:decide (0 ≤ x5_1)=true:=decide_eq_true c5;clear c5
      by_cases c6:x5_1 < (l1.length:Int)
      ·
       rw [if_pos c6] at H;have c6b0:decide (x5_1 < (l1.length:Int))=true:=decide_eq_true c6;clear c6;replace H:=Option.bind_eq_some_iff.mp H;obtain ⟨t245,A70,H⟩:=H;(try dsimp only at H);have A7:=mk0 A70;clear A70
       by_cases c8:t245=true
       ·
        subst c8;have H1:(bellpullref01_SameLists.l0 k1 l0 l1 (wrap64 (x5_1 + 1)))=some r:=by rw [if_pos rfl] at H;exact H
        clear H;have H:=H1;clear H1;have H':=mk0 H;clear H;have p243:0 ≤ (x5_1:Int):=of_decide_eq_true (by first|(with_reducible assumption)|assumption);have q243:x5_1 < (l0.length:Int):=of_decide_eq_true (by first|(with_reducible assumption)|assumption);obtain ⟨ad243,A243_0,c243_0,e243,hx243_0,hl243_0,hi243_0⟩:=at_L1 HR0.out x5_1 p243 q243;cases e243;have HR243_0:=mk0 hi243_0;have HC243_0:=mk0 hl243_0;clear hi243_0 hl243_0;replace p243:=eq_true p243;replace q243:=eq_true q243;have p244:0 ≤ (x5_1:Int):=of_decide_eq_true (by first|(with_reducible assumption)|assumption);have q244:x5_1 < (l1.length:Int):=of_decide_eq_true (by first|(with_reducible assumption)|assumption);obtain ⟨ad244,A244_0,c244_0,e244,hx244_0,hl244_0,hi244_0⟩:=at_L1 HR1.out x5_1 p244 q244;cases e244;have HR244_0:=mk0 hi244_0;have HC244_0:=mk0 hl244_0;clear hi244_0 hl244_0;replace p244:=eq_true p244;replace q244:=eq_true q244;go_wp2_with (first|(go_at_call 44;(with_reducible refine (bellpullref01_Same.calls k1 _ _ (rd_L1 l0 x5_1) _ _ (rd_L1 l1 x5_1) true _ ?side1 ?side2 ?side3 ?side4 A7.out).mono ?_);(case side1=>repeat (first|exact HR243_0.out|(with_reducible refine Kd.C_alloc ?_ _)|(with_reducible refine Kd.C_drewN ?_ _)|(with_reducible refine Kd.C_drew ?_)));(case side2=>exact HC243_0.out);(case side3=>repeat (first|exact HR244_0.out|(with_reducible refine Kd.C_alloc ?_ _)|(with_reducible refine Kd.C_drewN ?_ _)|(with_reducible refine Kd.C_drew ?_)));(case side4=>exact HC244_0.out);rintro e w' ⟨rfl,⟨nd,rfl⟩⟩;(try first|exact ⟨rfl,_,World.drewN_drewN _ _ _⟩|exact ⟨rfl,_,Eq.trans (World.drewN_drewN _ _ _) (congrArg (World.drewN _) (Nat.add_assoc _ _ _))⟩)));repeat (go_quiet (first|(go_at_call 44;(with_reducible refine (bellpullref01_Same.calls k1 _ _ (rd_L1 l0 x5_1) _ _ (rd_L1 l1 x5_1) true _ ?side1 ?side2 ?side3 ?side4 A7.out).mono ?_);(case side1=>repeat (first|exact HR243_0.out|(with_reducible refine Kd.C_alloc ?_ _)|(with_reducible refine Kd.C_drewN ?_ _)|(with_reducible refine Kd.C_drew ?_)));(case side2=>exact HC243_0.out);(case side3=>repeat (first|exact HR244_0.out|(with_reducible refine Kd.C_alloc ?_ _)|(with_reducible refine Kd.C_drewN ?_ _)|(with_reducible refine Kd.C_drew ?_)));(case side4=>exact HC244_0.out);rintro e w' ⟨rfl,⟨nd,rfl⟩⟩;(try first|exact ⟨rfl,_,World.drewN_drewN _ _ _⟩|exact ⟨rfl,_,Eq.trans (World.drewN_drewN _ _ _) (congrArg (World.drewN _) (Nat.add_assoc _ _ _))⟩)));try go_wp2_with (first|(go_at_call 44;(with_reducible refine (bellpullref01_Same.calls k1 _ _ (rd_L1 l0 x5_1) _ _ (rd_L1 l1 x5_1) true _ ?side1 ?side2 ?side3 ?side4 A7.out).mono ?_);(case side1=>repeat (first|exact HR243_0.out|(with_reducible refine Kd.C_alloc ?_ _)|(with_reducible refine Kd.C_drewN ?_ _)|(with_reducible refine Kd.C_drew ?_)));(case side2=>exact HC243_0.out);(case side3=>repeat (first|exact HR244_0.out|(with_reducible refine Kd.C_alloc ?_ _)|(with_reducible refine Kd.C_drewN ?_ _)|(with_reducible refine Kd.C_drew ?_)));(case side4=>exact HC244_0.out);rintro e w' ⟨rfl,⟨nd,rfl⟩⟩;(try first|exact ⟨rfl,_,World.drewN_drewN _ _ _⟩|exact ⟨rfl,_,Eq.trans (World.drewN_drewN _ _ _) (congrArg (World.drewN _) (Nat.add_assoc _ _ _))⟩))))
        go_roundg k1
        case measure=>have:=HK1.out;omega
        case rel=>exact ⟨(wrap64 (x5_1 + 1)),(by first|rfl|(simp;done)|(simp [*];done)),H',⟨by have:=HK1.out;omega⟩,by repeat (first|exact Drawn0.refl _|apply Drawn0.step)⟩
       ·
        replace c8:=Bool.eq_false_iff.mpr c8;subst c8;have H1:(some false)=some r:=by rw [if_neg (show ¬ (false=true) by decide)] at H;exact H
        clear H;have H:=H1;clear H1;obtain rfl:=Option.some.inj H;have p243:0 ≤ (x5_1:Int):=of_decide_eq_true (by first|(with_reducible assumption)|assumption);have q243:x5_1 < (l0.length:Int):=of_decide_eq_true (by first|(with_reducible assumption)|assumption);obtain ⟨ad243,A243_0,c243_0,e243,hx243_0,hl243_0,hi243_0⟩:=at_L1 HR0.out x5_1 p243 q243;cases e243;have HR243_0:=mk0 hi243_0;have HC243_0:=mk0 hl243_0;clear hi243_0 hl243_0;replace p243:=eq_true p243;replace q243:=eq_true q243;have p244:0 ≤ (x5_1:Int):=of_decide_eq_true (by first|(with_reducible assumption)|assumption);have q244:x5_1 < (l1.length:Int):=of_decide_eq_true (by first|(with_reducible assumption)|assumption);obtain ⟨ad244,A244_0,c244_0,e244,hx244_0,hl244_0,hi244_0⟩:=at_L1 HR1.out x5_1 p244 q244;cases e244;have HR244_0:=mk0 hi244_0;have HC244_0:=mk0 hl244_0;clear hi244_0 hl244_0;replace p244:=eq_true p244;replace q244:=eq_true q244;go_wp2_with (first|(go_at_call 44;(with_reducible refine (bellpullref01_Same.calls k1 _ _ (rd_L1 l0 x5_1) _ _ (rd_L1 l1 x5_1) false _ ?side1 ?side2 ?side3 ?side4 A7.out).mono ?_);(case side1=>repeat (first|exact HR243_0.out|(with_reducible refine Kd.C_alloc ?_ _)|(with_reducible refine Kd.C_drewN ?_ _)|(with_reducible refine Kd.C_drew ?_)));(case side2=>exact HC243_0.out);(case side3=>repeat (first|exact HR244_0.out|(with_reducible refine Kd.C_alloc ?_ _)|(with_reducible refine Kd.C_drewN ?_ _)|(with_reducible refine Kd.C_drew ?_)));(case side4=>exact HC244_0.out);rintro e w' ⟨rfl,⟨nd,rfl⟩⟩;(try first|exact ⟨rfl,_,World.drewN_drewN _ _ _⟩|exact ⟨rfl,_,Eq.trans (World.drewN_drewN _ _ _) (congrArg (World.drewN _) (Nat.add_assoc _ _ _))⟩)));repeat (go_quiet (first|(go_at_call 44;(with_reducible refine (bellpullref01_Same.calls k1 _ _ (rd_L1 l0 x5_1) _ _ (rd_L1 l1 x5_1) false _ ?side1 ?side2 ?side3 ?side4 A7.out).mono ?_);(case side1=>repeat (first|exact HR243_0.out|(with_reducible refine Kd.C_alloc ?_ _)|(with_reducible refine Kd.C_drewN ?_ _)|(with_reducible refine Kd.C_drew ?_)));(case side2=>exact HC243_0.out);(case side3=>repeat (first|exact HR244_0.out|(with_reducible refine Kd.C_alloc ?_ _)|(with_reducible refine Kd.C_drewN ?_ _)|(with_reducible refine Kd.C_drew ?_)));(case side4=>exact HC244_0.out);rintro e w' ⟨rfl,⟨nd,rfl⟩⟩;(try first|exact ⟨rfl,_,World.drewN_drewN _ _ _⟩|exact ⟨rfl,_,Eq.trans (World.drewN_drewN _ _ _) (congrArg (World.drewN _) (Nat.add_assoc _ _ _))⟩)));try go_wp2_with (first|(go_at_call 44;(with_reducible refine (bellpullref01_Same.calls k1 _ _ (rd_L1 l0 x5_1) _ _ (rd_L1 l1 x5_1) false _ ?side1 ?side2 ?side3 ?side4 A7.out).mono ?_);(case side1=>repeat (first|exact HR243_0.out|(with_reducible refine Kd.C_alloc ?_ _)|(with_reducible refine Kd.C_drewN ?_ _)|(with_reducible refine Kd.C_drew ?_)));(case side2=>exact HC243_0.out);(case side3=>repeat (first|exact HR244_0.out|(with_reducible refine Kd.C_alloc ?_ _)|(with_reducible refine Kd.C_drewN ?_ _)|(with_reducible refine Kd.C_drew ?_)));(case side4=>exact HC244_0.out);rintro e w' ⟨rfl,⟨nd,rfl⟩⟩;(try first|exact ⟨rfl,_,World.drewN_drewN _ _ _⟩|exact ⟨rfl,_,Eq.trans (World.drewN_drewN _ _ _) (congrArg (World.drewN _) (Nat.add_assoc _ _ _))⟩))))
        go_ret;exact ⟨by first|rfl|(simp;done)|(simp [*];done),by repeat (first|exact Drawn0.refl _|apply Drawn0.step)⟩
      ·
       rw [if_neg c6] at H;exact absurd H (by simp)
     ·
      rw [if_neg c5] at H;exact absurd H (by simp)
    ·
     rw [if_neg c4] at H;have c4b0:decide (x5_1 < (l0.length:Int))=false:=decide_eq_false c4;clear c4;obtain rfl:=Option.some.inj H;go_wp2;repeat (go_quiet (fail);try go_wp2)
     go_ret;exact ⟨by first|rfl|(simp;done)|(simp [*];done),by repeat (first|exact Drawn0.refl _|apply Drawn0.step)⟩
 ·
  rw [if_neg c3] at H;have c3b0:((l0.length:Int) == (l1.length:Int))=false:=beq_eq_false_iff_ne.mpr c3;have c3b1:((l0.length:Int) != (l1.length:Int))=true:=bne_iff_ne.mpr c3;have c3b2:(l0.length == l1.length)=false:=by first|simpa using c3|(simp at c3 ⊢;omega)
  obtain rfl:=Option.some.inj H;go_enter Try.func74,Try.ntmps74;go_wp2;repeat (go_quiet (fail);try go_wp2)
  go_ret;exact ⟨by first|rfl|(simp;done)|(simp [*];done),by repeat (first|exact Drawn0.refl _|apply Drawn0.step)⟩
def bellpullref05_vectors.f (l0_0:List Int) (l0_1:List (List Int)):Option ((List (List Int))):=(some (([l0_0]:List (List Int)):List (List Int))).bind fun y247=>(if y247.length + l0_1.length < 5864062014805 then (some (y247 ++ l0_1)) else (none))
set_option maxHeartbeats 8000000 in
set_option maxRecDepth 100000 in
theorem bellpullref05_vectors.calls (P0_0_:Nat → Prop) (A0_0:Option Addr) (c0_0:Nat) (l0_0:List Int) (P0_1_:Nat → Prop) (A0_1:Option Addr) (c0_1:Nat) (l0_1:List (List Int)) (r:List (List Int)) (w:World) (hs0_0:Kd.V (Kd.int .i64) 3 w w.heap.size (fun k_=>P0_0_ k_) (.slice A0_0 l0_0.length c0_0) l0_0) (hs0_1:Kd.V (Kd.slice 3 (Kd.int .i64)) 23 w w.heap.size (fun k_=>P0_1_ k_) (.slice A0_1 l0_1.length c0_1) l0_1) (h:bellpullref05_vectors.f l0_0 l0_1=some r) :
    Calls Try.prog 75 #[.agg #[.slice A0_0 l0_0.length c0_0,.slice A0_1 l0_1.length c0_1]] w fun e w'=>∃ v0_:Value,e=.returned (v0_)∧Kd.N (Kd.slice 3 (Kd.int .i64)) 23 w' w.heap.size (fun k_=>((P0_0_ k_ ∨ P0_1_ k_) ∨ w.heap.size ≤ k_)) v0_ r∧Below w.heap.size w w':=by
 have hu60:=Try.underlying60;have HO0_0:=mk0 (show Kd.V (Kd.int .i64) 3 w w.heap.size (fun k_=>((P0_0_ k_ ∨ P0_1_ k_) ∨ w.heap.size ≤ k_)) (.slice A0_0 l0_0.length c0_0) l0_0 from Kd.V_mono hs0_0 (fun k_ hk=>.inl (.inl hk)));have HO0_1:=mk0 (show Kd.V (Kd.slice 3 (Kd.int .i64)) 23 w w.heap.size (fun k_=>((P0_0_ k_ ∨ P0_1_ k_) ∨ w.heap.size ≤ k_)) (.slice A0_1 l0_1.length c0_1) l0_1 from Kd.V_mono hs0_1 (fun k_ hk=>.inl (.inr hk)));have HB:=mk0 (Below.refl w.heap.size w);have H:((some (([l0_0]:List (List Int)):List (List Int))).bind fun y247=>(if y247.length + l0_1.length < 5864062014805 then (some (y247 ++ l0_1)) else (none)))=some r:=h;clear h;obtain ⟨y247,hy247⟩:∃ y_:List (List Int),y_=(([l0_0]:List (List Int))):=⟨_,rfl⟩
 replace H:(if y247.length + l0_1.length < 5864062014805 then (some (y247 ++ l0_1)) else (none))=some r:=by first|(rw [hy247];with_reducible exact H)|(have H2_:=(Option.bind_some _ _).symm.trans H;rw [hy247];with_reducible exact H2_)|(have H2_:=(Option.bind_some _ _).symm.trans H;with_reducible exact H2_)|with_reducible exact H|(rw [hy247];exact H)|exact H
 have Ny247:=mk0 hy247;clear hy247
 by_cases c2:y247.length + l0_1.length < 5864062014805
 ·
  rw [if_pos c2] at H;have LMc2:=mk0 c2;clear c2;obtain ⟨y250,hy250⟩:∃ y_:List (List Int),y_=(y247 ++ l0_1):=⟨_,rfl⟩
  replace H:(some y250)=some r:=by first|(rw [hy250];with_reducible exact H)|(have H2_:=(Option.bind_some _ _).symm.trans H;rw [hy250];with_reducible exact H2_)|(have H2_:=(Option.bind_some _ _).symm.trans H;with_reducible exact H2_)|with_reducible exact H|(rw [hy250];exact H)|exact H
  have Ny250:=mk0 hy250;clear hy250;obtain rfl:=Option.some.inj H;go_enter Try.func75,Try.ntmps75;go_wp2_with (first|((with_reducible refine gate_dst (N:=1) rfl ?_);refine box_event ?hg (N:=1) ?hd (cs:=#[.slice A0_0 l0_0.length c0_0,.slice A0_1 l0_1.length c0_1]) (t:=60) ?hr ?_;(case hd=>rfl);(case hg=>rfl);(case hr=>first|(go_simp;done)|(go_simp;rfl));intro gb246 hg w3 hbox hb;have BK246:=mk0 (hbox);have GW246:=szw hg HB;have GE246:=GW246;replace HO0_0:=mk0 (Kd.V_below (Kd.V_elderB HO0_0.out gb246 (Nat.le_of_eq hg.symm)) hb);replace HO0_1:=mk0 (Kd.V_below (Kd.V_elderB HO0_1.out gb246 (Nat.le_of_eq hg.symm)) hb);replace HB:=bst HB hb;clear hb hbox hg;have hcz4_0:w3.cell? ⟨gb246,0,none⟩=some (.slice A0_0 l0_0.length c0_0):=(blk_cell BK246.out 0).trans rfl;have hcz4_1:w3.cell? ⟨gb246,1,none⟩=some (.slice A0_1 l0_1.length c0_1):=(blk_cell BK246.out 1).trans rfl;have hfz4_0:=blk_frozen BK246.out 0;have hfz4_1:=blk_frozen BK246.out 1)|((with_reducible refine gate_dst (N:=5) rfl ?_);refine Kd.N_lit (Kd.slice 3 (Kd.int .i64)) _ 23 ?hg (N':=5) ?hd (xs:=([l0_0]:List (List Int))) (inner:=[.slice A0_0 l0_0.length c0_0]) (ok:=(fun k_=>((P0_0_ k_ ∨ P0_1_ k_) ∨ w.heap.size ≤ k_)∧k_ ≠ gb246)) (okp:=(fun k_=>((P0_0_ k_ ∨ P0_1_ k_) ∨ w.heap.size ≤ k_)∧k_ ≠ gb246)) ?hr ?hp (fun _ hk=>hk) ((show ∀ k_,w3.heap.size ≤ k_ → (fun k_=>((P0_0_ k_ ∨ P0_1_ k_) ∨ w.heap.size ≤ k_)∧k_ ≠ gb246) k_ from fun k_ hk=>⟨(.inr (Nat.le_trans (below_size HB.out) hk)),Kd.freshB (g:=gb246) (o:=.cells #[.slice A0_0 l0_0.length c0_0,.slice A0_1 l0_1.length c0_1] 60 (0,0)) BK246.out k_ hk⟩) _ (Nat.le_refl _)) (Below.refl _ _) (Nat.le_refl _) (by simp) ?_;(case hd=>rfl);(case hg=>rfl);(case hr=>first|(go_simp;done)|(go_simp;rfl));(case hp=>exact (Reps.one (show Kd.FK (Kd.slice 3 (Kd.int .i64)) _ _ l0_0 [.slice A0_0 l0_0.length c0_0] from (Kd.FK_slice_mk (Kd.V_reads' (Kd.V_mono (e:=0) (base:=0) (ok':=(fun k_=>((P0_0_ k_ ∨ P0_1_ k_) ∨ w.heap.size ≤ k_)∧k_ ≠ gb246)) (HO0_0.out) (fun k_ hk=>⟨hk.1,hk.2⟩))).2.1 (Kd.V_F (Kd.V_mono (e:=0) (base:=0) (ok':=(fun k_=>((P0_0_ k_ ∨ P0_1_ k_) ∨ w.heap.size ≤ k_)∧k_ ≠ gb246)) (HO0_0.out) (fun k_ hk=>⟨hk.1,hk.2⟩))))) (Reps.none _ _)));intro v248 w5 ho6 hb hg_ hnew_;clear hg_ hnew_;(first|rw [← Ny247.out] at ho6|(simp only [Int.reduceToNat] at ho6;rw [← Ny247.out] at ho6));have HO249:=mk0 (Kd.N_lower ho6 (below_size HB.out));replace HO0_0:=mk0 (Kd.V_elder' HO0_0.out (by first|exact Kd.N_base ho6|exact Kd.S_base ho6|exact Kd.R_base ho6) hb);replace HO0_1:=mk0 (Kd.V_elder' HO0_1.out (by first|exact Kd.N_base ho6|exact Kd.S_base ho6|exact Kd.R_base ho6) hb);replace BK246:=bkb BK246 hb;replace HB:=bst HB hb;clear hb ho6;have hcz7_0:w5.cell? ⟨gb246,0,none⟩=some (.slice A0_0 l0_0.length c0_0):=(blk_cell BK246.out 0).trans rfl;have hcz7_1:w5.cell? ⟨gb246,1,none⟩=some (.slice A0_1 l0_1.length c0_1):=(blk_cell BK246.out 1).trans rfl;have hfz7_0:=blk_frozen BK246.out 0;have hfz7_1:=blk_frozen BK246.out 1)|((with_reducible refine gate_builtin (b:=.append) (xs:=#[.tmp 5,.tmp 7]) rfl ?_);at_builtin;refine Kd.N_append_rows (Kd.slice 3 (Kd.int .i64)) (w0:=w) w.heap.size rfl (.tmp 5) (.tmp 7) 58 23 (.slice none 0 0) 24 rfl Try.underlying58 info23 rfl (by decide) (by omega) v248 y247 l0_1 _ _ _ (fun k_=>((P0_0_ k_ ∨ P0_1_ k_) ∨ w.heap.size ≤ k_)∧k_ ≠ gb246) (fun k_=>((fun k_=>((P0_0_ k_ ∨ P0_1_ k_) ∨ w.heap.size ≤ k_)∧k_ ≠ gb246)) k_∧some k_ ≠ (v248:Value).ownBlock) rfl rfl ?aO ?aR (fun _ hk=>hk) ?aF ?aB ?aS ?aL ?_;(case aR=>exact (by skip;exact Kd.V_F (Kd.V_mono (ok':=(fun k_=>((fun k_=>((P0_0_ k_ ∨ P0_1_ k_) ∨ w.heap.size ≤ k_)∧k_ ≠ gb246)) k_∧some k_ ≠ (v248:Value).ownBlock)) (HO0_1.out) (fun k_ hk=>⟨⟨hk.1.1,hk.1.2⟩,hk.2⟩))));(case aB=>exact (by repeat (first|(with_reducible first|exact HB.out|apply below_alloc|apply pw_below_drewN|apply below_drew1|refine below_set ?_ GE246.out)|exact HB.out)));(case aF=>exact (fun k_ hk=>⟨(.inr (Nat.le_trans (below_size (by repeat (first|(with_reducible first|exact HB.out|apply below_alloc|apply pw_below_drewN|apply below_drew1|refine below_set ?_ GE246.out)|exact HB.out))) hk)),Kd.freshB (g:=gb246) (o:=.cells #[.slice A0_0 l0_0.length c0_0,.slice A0_1 l0_1.length c0_1] 60 (0,0)) (by (with_reducible repeat (first|refine blk_drewN ?_ _|refine blk_drew ?_|refine blk_alloc ?_ _));exact BK246.out) k_ hk⟩));(case aO=>exact (by (with_reducible repeat (first|apply Kd.N_alloc|apply Kd.N_drewN|apply Kd.N_drew));exact HO249.out));(case aS=>exact (below_size (by repeat (first|(with_reducible first|exact HB.out|apply below_alloc|apply pw_below_drewN|apply below_drew1|refine below_set ?_ GE246.out)|exact HB.out))));(case aL=>have:=LMc2.out;omega);intro v251 w8 ho hb hg hat;rw [← Ny250.out] at ho;have HO252:=mk0 (ho);replace HO0_0:=mk0 (Kd.V_afterv (ok:=(fun k_=>((P0_0_ k_ ∨ P0_1_ k_) ∨ w.heap.size ≤ k_)∧k_ ≠ gb246)) (by (with_reducible repeat (first|apply Kd.V_alloc|apply Kd.V_drewN|apply Kd.V_drew));exact HO0_0.out) hg hat);replace HO0_1:=mk0 (Kd.V_afterv (ok:=(fun k_=>((P0_0_ k_ ∨ P0_1_ k_) ∨ w.heap.size ≤ k_)∧k_ ≠ gb246)) (by (with_reducible repeat (first|apply Kd.V_alloc|apply Kd.V_drewN|apply Kd.V_drew));exact HO0_1.out) hg hat);replace BK246:=mk0 (blk_grown (g:=gb246) (o:=.cells #[.slice A0_0 l0_0.length c0_0,.slice A0_1 l0_1.length c0_1] 60 (0,0)) (by (with_reducible repeat (first|refine blk_drewN ?_ _|refine blk_drew ?_|refine blk_alloc ?_ _));exact BK246.out) hg (Kd.N_ne HO249.out BK246.out (by decide)));replace HB:=mk0 (hb);clear HO249;clear ho hb hg hat))
  go_ret;exact ⟨_,by first|rfl|(simp [errW_none,errW_some] <;> rfl)|(simp [*,errW_none,errW_some] <;> rfl),by (with_reducible repeat (first|apply Kd.N_alloc|apply Kd.N_drewN|apply Kd.N_drew));exact Kd.N_mono HO252.out (fun _ hk=>hk.1),by repeat (first|(with_reducible first|exact HB.out|apply below_alloc|apply pw_below_drewN|apply below_drew1|refine below_set ?_ GE246.out)|exact HB.out)⟩
 ·
  rw [if_neg c2] at H;exact absurd H (by simp)
def bellpullref05_Same.l0:Nat → List (S60) → List (S60) → Int → Option (Bool)
  | 0,_,_,_=>none
  | k + 1,x0,x1,x5=>if x5 < (x0.length:Int) then (if 0 ≤ x5 then ((bellpullref05_vectors.f ((rd_T60 x0 x5).f0) ((rd_T60 x0 x5).f1)).bind fun t254=>(if x5 < (x1.length:Int) then ((bellpullref05_vectors.f ((rd_T60 x1 x5).f0) ((rd_T60 x1 x5).f1)).bind fun t258=>((bellpullref01_SameLists.f k t254 t258).bind fun t261=>(if t261=true then (bellpullref05_Same.l0 k x0 x1 (wrap64 (x5 + 1))) else (some false)))) else (none))) else (none)) else (some true)
def bellpullref05_Same.f (k:Nat) (l0:List (S60)) (l1:List (S60)):Option (Bool):=if (l0.length:Int)=(l1.length:Int) then (bellpullref05_Same.l0 k l0 l1 0) else (some false)
theorem bellpullref05_Same.mono_l:∀ k,(∀ y0 y1 y2,LeO (bellpullref05_Same.l0 k y0 y1 y2) (bellpullref05_Same.l0 (k + 1) y0 y1 y2))
  | 0=>fun _ _ _ r h=>by simp [bellpullref05_Same.l0] at h
  | k + 1=>by
    have ih0:=bellpullref05_Same.mono_l k
    · intro y0 y1 y2
      unfold bellpullref05_Same.l0
      with_reducible repeat' first|exact ih0 _ _ _|exact bellpullref01_SameLists.mono _ _ _|exact LeO.refl _|exact LeO.none _|refine LeO.ite ?_ ?_|refine LeO.bind ?_ (fun _=>?_)
theorem bellpullref05_Same.mono:∀ a0 a1 k,LeO (bellpullref05_Same.f k a0 a1) (bellpullref05_Same.f (k + 1) a0 a1):=by
  intro a0 a1 k
  have ih0:=bellpullref05_Same.mono_l k
  unfold bellpullref05_Same.f
  with_reducible repeat' first|exact ih0 _ _ _|exact bellpullref01_SameLists.mono _ _ _|exact LeO.refl _|exact LeO.none _|refine LeO.ite ?_ ?_|refine LeO.bind ?_ (fun _=>?_)
def bellpullref05_Same.T6:Bool × List (List Nat × List Nat):=(true,[([],[]),([],[]),([0,1],[0,1]),([2],[2]),([3],[3]),([],[]),([],[]),([5,6],[5,6]),([7],[7]),([8,4],[8]),([4,9,9],[4,9]),([10],[10])])
def bellpullref05_Same.B6:List Nat:=[0,0,3,7,15,0,0,96,224,511,1023,2047]
theorem bellpullref05_Same.tab6:rtab .any (opsOf Try.f31 6)=bellpullref05_Same.T6:=by kernel_rfl
theorem bellpullref05_Same.bits6:waitsOk bellpullref05_Same.T6.2 bellpullref05_Same.B6=true:=by kernel_rfl
set_option maxHeartbeats 8000000 in
set_option maxRecDepth 100000 in
theorem bellpullref05_Same.calls (k:Nat) (A0:Option Addr) (c0:Nat) (l0:List (S60)) (A1:Option Addr) (c1:Nat) (l1:List (S60)) (r:Bool) (w:World) (hr0:Kd.C k60 w A0 l0.length l0) (hc0:l0.length ≤ c0) (hr1:Kd.C k60 w A1 l1.length l1) (hc1:l1.length ≤ c1) (h:bellpullref05_Same.f k l0 l1=some r) :
    Calls Try.prog 31 #[.slice A0 l0.length c0,.slice A1 l1.length c1] w fun e w'=>e=.returned (.bool r)∧Below w.heap.size w w':=by
 have hu60:=Try.underlying60;have HR0:=mk0 hr0;have HC0:=mk0 hc0;clear hr0 hc0;have HR1:=mk0 hr1;have HC1:=mk0 hc1;clear hr1 hc1;have HB:=mk0 (Below.refl w.heap.size w);have H:(if (l0.length:Int)=(l1.length:Int) then (bellpullref05_Same.l0 k l0 l1 0) else (some false))=some r:=h;clear h
 by_cases c3:(l0.length:Int)=(l1.length:Int)
 ·
  rw [if_pos c3] at H;have c3b0:((l0.length:Int) == (l1.length:Int))=true:=beq_iff_eq.mpr c3;have c3b1:((l0.length:Int) != (l1.length:Int))=false:=bne_eq_false_iff_eq.mpr c3;have c3b2:(l0.length == l1.length)=true:=by first|simpa using c3|(simp at c3 ⊢;omega)
  clear c3;have H':=mk0 H;clear H;go_enter Try.func31,Try.ntmps31;go_wp2
  go_loopg [5] k (fun kq v5 w'=>∃ (x5_1:Int),v5=.int .i64 x5_1∧Aside0 (bellpullref05_Same.l0 kq l0 l1 x5_1=some r)∧Aside0 (kq ≤ k)∧Aside0 (Below w.heap.size w w'))
  case atStart=>exact ⟨(0),(by first|rfl|(simp;done)|(simp [*];done)),H',⟨Nat.le_refl _⟩,⟨by repeat (first|(with_reducible first|exact HB.out|apply below_alloc|apply pw_below_drewN|apply below_drew1)|exact HB.out)⟩⟩
  case round =>
   clear H';try clear c1
   try clear p2
   try clear c3
   try clear c3b0
   try clear c3b1
   try clear c3b2
   obtain ⟨x5_1,rfl,HA,HK1,HB⟩:=hrel;cases gk with
   | zero=>exact absurd HA.out (by simp [bellpullref05_Same.l0])
   | succ k1 =>
    have H:=HA.out;clear HA;simp only [bellpullref05_Same.l0] at H
    by_cases c4:x5_1 < (l0.length:Int)
    ·
     rw [if_pos c4] at H;have c4b0:decide (x5_1 < (l0.length:Int))=true:=decide_eq_true c4;clear c4
     by_cases c5:0 ≤ x5_1
     ·
      rw [if_pos c5] at H;have c5b0:decide (0 ≤ x5_1)=true:=decide_eq_true c5;clear c5;replace H:=Option.bind_eq_some_iff.mp H;obtain ⟨t254,A60,H⟩:=H;(try dsimp only at H);have A6:=mk0 A60;clear A60
      by_cases c7:x5_1 < (l1.length:Int)
      ·
       rw [if_pos c7] at H;have c7b0:decide (x5_1 < (l1.length:Int))=true:=decide_eq_true c7;clear c7;replace H:=Option.bind_eq_some_iff.mp H;obtain ⟨t258,A80,H⟩:=H;(try dsimp only at H);have A8:=mk0 A80;clear A80;replace H:=Option.bind_eq_some_iff.mp H;obtain ⟨t261,A90,H⟩:=H;(try dsimp only at H);have A9:=mk0 A90;clear A90
       by_cases c10:t261=true
       ·
        subst c10;have H1:(bellpullref05_Same.l0 k1 l0 l1 (wrap64 (x5_1 + 1)))=some r:=by rw [if_pos rfl] at H;exact H
        clear H;have H:=H1;clear H1;have H':=mk0 H;clear H;try go_wp2
        replace HB:=hdr HB;have p253:0 ≤ (x5_1:Int):=of_decide_eq_true (by first|(with_reducible assumption)|assumption);have q253:x5_1 < (l0.length:Int):=of_decide_eq_true (by first|(with_reducible assumption)|assumption);obtain ⟨ad253,A253_0,c253_0,A253_1,c253_1,e253,hx253_0,hx253_1,hl253_0,hi253_0,hl253_1,hi253_1⟩:=at_T60 HR0.out x5_1 p253 q253;have hw253_1:=hx253_1;have hw253_0:=hx253_0;cases e253;replace hx253_0:=(HB.out.cell (World.block_lt_of_cell? w _ hx253_0)).trans hx253_0;replace hx253_1:=(HB.out.cell (World.block_lt_of_cell? w _ hx253_1)).trans hx253_1;have HR253_0:=mk0 hi253_0;have HC253_0:=mk0 hl253_0;clear hi253_0 hl253_0;have HR253_1:=mk0 hi253_1;have HC253_1:=mk0 hl253_1;clear hi253_1 hl253_1;replace p253:=eq_true p253;replace q253:=eq_true q253;have p257:0 ≤ (x5_1:Int):=of_decide_eq_true (by first|(with_reducible assumption)|assumption);have q257:x5_1 < (l1.length:Int):=of_decide_eq_true (by first|(with_reducible assumption)|assumption);obtain ⟨ad257,A257_0,c257_0,A257_1,c257_1,e257,hx257_0,hx257_1,hl257_0,hi257_0,hl257_1,hi257_1⟩:=at_T60 HR1.out x5_1 p257 q257;have hw257_1:=hx257_1;have hw257_0:=hx257_0;cases e257;replace hx257_0:=(HB.out.cell (World.block_lt_of_cell? w _ hx257_0)).trans hx257_0;replace hx257_1:=(HB.out.cell (World.block_lt_of_cell? w _ hx257_1)).trans hx257_1;have HR257_0:=mk0 hi257_0;have HC257_0:=mk0 hl257_0;clear hi257_0 hl257_0;have HR257_1:=mk0 hi257_1;have HC257_1:=mk0 hl257_1;clear hi257_1 hl257_1;replace p257:=eq_true p257;replace q257:=eq_true q257;refine start_ (n:=12) (S:=fun w'=>w'.cell? (ad253.add ((x5_1).toNat * 2))=some (.slice A253_0 ((rd_T60 l0 x5_1).f0).length c253_0)∧w'.cell? ⟨(ad253.add ((x5_1).toNat * 2)).block,(ad253.add ((x5_1).toNat * 2)).off + 1,none⟩=some (.slice A253_1 ((rd_T60 l0 x5_1).f1).length c253_1)∧w'.cell? (ad257.add ((x5_1).toNat * 2))=some (.slice A257_0 ((rd_T60 l1 x5_1).f0).length c257_0)∧w'.cell? ⟨(ad257.add ((x5_1).toNat * 2)).block,(ad257.add ((x5_1).toNat * 2)).off + 1,none⟩=some (.slice A257_1 ((rd_T60 l1 x5_1).f1).length c257_1)) (ds:=[]) #[false,false,false,false,false,false,false,false,false,false,false,false] (by kernel_rfl) rfl rfl ⟨((HB.out.cell (World.block_lt_of_cell? w _ hw253_0)).trans hw253_0),((HB.out.cell (World.block_lt_of_cell? w _ hw253_1)).trans hw253_1),((HB.out.cell (World.block_lt_of_cell? w _ hw257_0)).trans hw257_0),((HB.out.cell (World.block_lt_of_cell? w _ hw257_1)).trans hw257_1)⟩ (fun hHeld=>?_);refine with_tabW bellpullref05_Same.tab6 bellpullref05_Same.bits6 (fun HT_ HW_=>?_);generalize wr.drew=w11 at HB HR253_0 HR253_1 HR257_0 HR257_1 hx253_0 hx253_1 hx257_0 hx257_1 hHeld ⊢;refine pure_ (i:=0) (N:=some 17) (v:=?_) (a':=?_) #[true,false,false,false,false,false,false,false,false,false,false,false] rfl rfl (any_of HT_.out (by kernel_rfl)) (fun _ _ _ h=>h) (Or.inl ⟨by rfl,?_⟩) ?_ ?_;rotate_left
        ·
         intro w';go_simp;with_reducible rfl
        rotate_left
        ·
         simp only [Act.put,List.setIfInBounds_toArray,List.set_cons_zero,List.set_cons_succ,i64_w,i32_w];rfl
        refine pure_ (i:=1) (N:=some 18) (v:=?_) (a':=?_) #[true,true,false,false,false,false,false,false,false,false,false,false] rfl rfl (any_of HT_.out (by kernel_rfl)) (fun _ _ _ h=>h) (Or.inl ⟨by rfl,?_⟩) ?_ ?_;rotate_left
        ·
         intro w';go_simp;with_reducible rfl
        rotate_left
        ·
         simp only [Act.put,List.setIfInBounds_toArray,List.set_cons_zero,List.set_cons_succ,i64_w,i32_w];rfl
        refine pure_ (i:=2) (N:=some 19) (v:=?_) (a':=?_) #[true,true,true,false,false,false,false,false,false,false,false,false] rfl rfl (any_of HT_.out (by kernel_rfl)) (fun _ _ _ h=>h) (Or.inl ⟨by rfl,?_⟩) ?_ ?_;rotate_left
        ·
         intro w';go_simp;with_reducible rfl
        rotate_left
        ·
         simp only [Act.put,List.setIfInBounds_toArray,List.set_cons_zero,List.set_cons_succ,i64_w,i32_w];rfl
        refine pure_ (i:=5) (N:=some 22) (v:=?_) (a':=?_) #[true,true,true,false,false,true,false,false,false,false,false,false] rfl rfl (any_of HT_.out (by kernel_rfl)) (fun _ _ _ h=>h) (Or.inl ⟨by rfl,?_⟩) ?_ ?_;rotate_left
        ·
         intro w';go_simp;with_reducible rfl
        rotate_left
        ·
         simp only [Act.put,List.setIfInBounds_toArray,List.set_cons_zero,List.set_cons_succ,i64_w,i32_w];rfl
        refine pure_ (i:=6) (N:=some 23) (v:=?_) (a':=?_) #[true,true,true,false,false,true,true,false,false,false,false,false] rfl rfl (any_of HT_.out (by kernel_rfl)) (fun _ _ _ h=>h) (Or.inl ⟨by rfl,?_⟩) ?_ ?_;rotate_left
        ·
         intro w';go_simp;with_reducible rfl
        rotate_left
        ·
         simp only [Act.put,List.setIfInBounds_toArray,List.set_cons_zero,List.set_cons_succ,i64_w,i32_w];rfl
        refine pure_ (i:=7) (N:=some 24) (v:=?_) (a':=?_) #[true,true,true,false,false,true,true,true,false,false,false,false] rfl rfl (any_of HT_.out (by kernel_rfl)) (fun _ _ _ h=>h) (Or.inl ⟨by rfl,?_⟩) ?_ ?_;rotate_left
        ·
         intro w';go_simp;with_reducible rfl
        rotate_left
        ·
         simp only [Act.put,List.setIfInBounds_toArray,List.set_cons_zero,List.set_cons_succ,i64_w,i32_w];rfl
        refine take_ (i:=3) (N:=some 20) (v:=?_) (a':=?_) #[true,true,true,true,false,true,true,true,false,false,false,false] rfl rfl (take_ofW HT_.out HW_.out (by kernel_rfl)) (fun _ _ _ h=>h) (Or.inl ⟨by rfl,?_⟩) hHeld ?_ ?_;rotate_left
        ·
         rintro w' ⟨s0,s1,s2,s3⟩;go_simp;with_reducible rfl
        rotate_left
        ·
         simp only [Act.put,List.setIfInBounds_toArray,List.set_cons_zero,List.set_cons_succ,i64_w,i32_w];rfl
        refine take_ (i:=8) (N:=some 25) (v:=?_) (a':=?_) #[true,true,true,true,false,true,true,true,true,false,false,false] rfl rfl (take_ofW HT_.out HW_.out (by kernel_rfl)) (fun _ _ _ h=>h) (Or.inl ⟨by rfl,?_⟩) hHeld ?_ ?_;rotate_left
        ·
         rintro w' ⟨s0,s1,s2,s3⟩;go_simp;with_reducible rfl
        rotate_left
        ·
         simp only [Act.put,List.setIfInBounds_toArray,List.set_cons_zero,List.set_cons_succ,i64_w,i32_w];rfl
        refine one_ (i:=4) (N:=some 21) #[true,true,true,true,true,true,true,true,true,false,false,false] rfl rfl (one_of HT_.out (by kernel_rfl)) (by decide) (fun K hK=>?_);refine goes_ Try.func75 (by kernel_rfl) rfl #[.agg #[.slice A253_0 ((rd_T60 l0 x5_1).f0).length c253_0,.slice A253_1 ((rd_T60 l0 x5_1).f1).length c253_1]] (by rfl) rfl rfl (by (try simp only [List.map_toArray,List.map_cons,List.map_nil]);first|done|rfl|(simp only [List.length_drop,List.length_take];rfl)) ?_;with_reducible refine (bellpullref05_vectors.calls (fun k_=>k_ < w.heap.size) _ _ ((rd_T60 l0 x5_1).f0) (fun k_=>k_ < w.heap.size) _ _ ((rd_T60 l0 x5_1).f1) t254 _ ?side1 ?side2 A6.out).mono ?_
        (case side1=>exact Kd.V_mk HC253_0.out (Kd.F_below (Kd.C_F (Kd.heap_int .i64) HR253_0.out) HB.out));(case side2=>exact Kd.V_mk HC253_1.out (Kd.F_below (Kd.C_F (Kd.heap_slice 3 (Kd.heap_int .i64)) HR253_1.out) HB.out));rintro e w12 ⟨v255,rfl,ho0,hb⟩;refine ⟨_,rfl,?_⟩;have HO256:=mk0 (Kd.N_lower (Kd.N_mono (ok':=fun k_=>True) ho0 (fun k_ hk_=>trivial)) (below_size HB.out));replace HB:=bst HB hb;(try clear hb);(try clear ho0);refine hK.out _ _ ⟨((HB.out.cell (World.block_lt_of_cell? w _ hw253_0)).trans hw253_0),((HB.out.cell (World.block_lt_of_cell? w _ hw253_1)).trans hw253_1),((HB.out.cell (World.block_lt_of_cell? w _ hw257_0)).trans hw257_0),((HB.out.cell (World.block_lt_of_cell? w _ hw257_1)).trans hw257_1)⟩ (fun hHeld=>?_);clear hK K;refine norm_ (a':=?_) ?_ ?_;rotate_left
        ·
         show Act.put _ (some 21) _=_;simp only [Act.put,List.setIfInBounds_toArray,List.set_cons_zero,List.set_cons_succ,i64_w,i32_w];rfl
        refine one_ (i:=9) (N:=some 26) #[true,true,true,true,true,true,true,true,true,true,false,false] rfl rfl (one_of HT_.out (by kernel_rfl)) (by decide) (fun K hK=>?_);refine goes_ Try.func75 (by kernel_rfl) rfl #[.agg #[.slice A257_0 ((rd_T60 l1 x5_1).f0).length c257_0,.slice A257_1 ((rd_T60 l1 x5_1).f1).length c257_1]] (by rfl) rfl rfl (by (try simp only [List.map_toArray,List.map_cons,List.map_nil]);first|done|rfl|(simp only [List.length_drop,List.length_take];rfl)) ?_;with_reducible refine (bellpullref05_vectors.calls (fun k_=>k_ < w.heap.size) _ _ ((rd_T60 l1 x5_1).f0) (fun k_=>k_ < w.heap.size) _ _ ((rd_T60 l1 x5_1).f1) t258 _ ?side1 ?side2 A8.out).mono ?_
        (case side1=>exact Kd.V_mk HC257_0.out (Kd.F_below (Kd.C_F (Kd.heap_int .i64) HR257_0.out) HB.out));(case side2=>exact Kd.V_mk HC257_1.out (Kd.F_below (Kd.C_F (Kd.heap_slice 3 (Kd.heap_int .i64)) HR257_1.out) HB.out));rintro e w13 ⟨v259,rfl,ho0,hb⟩;refine ⟨_,rfl,?_⟩;have HO260:=mk0 (Kd.N_lower (Kd.N_mono (ok':=fun k_=>some k_ ≠ (v255:Value).ownBlock) ho0 (fun k_ hk_=>Or.elim hk_ (fun hs_=>Or.elim hs_ (fun hs_=>fun e_=>Nat.not_le.2 hs_ (Kd.N_base HO256.out k_ e_.symm)) (fun hs_=>fun e_=>Nat.not_le.2 hs_ (Kd.N_base HO256.out k_ e_.symm))) (fun hn_=>(Kd.fresh' (Kd.N_lt HO256.out) k_ hn_)))) (below_size HB.out));replace HO256:=mk0 (Kd.N_elder' HO256.out (by first|exact Kd.N_base ho0|exact Kd.S_base ho0|exact Kd.R_base ho0) hb);replace HB:=bst HB hb;(try clear hb);(try clear ho0);obtain ⟨Ao14,co14,eo14⟩:=Kd.N_slice HO256.out;(first|subst eo14|(injection eo14 with f1_ f2_ f3_;have f4_:=f1_.symm;have f5_:=f3_.symm;clear f1_ f2_ f3_;subst f4_;subst f5_));obtain ⟨Ao15,co15,eo15⟩:=Kd.N_slice HO260.out;(first|subst eo15|(injection eo15 with f1_ f2_ f3_;have f4_:=f1_.symm;have f5_:=f3_.symm;clear f1_ f2_ f3_;subst f4_;subst f5_));refine hK.out _ _ ⟨((HB.out.cell (World.block_lt_of_cell? w _ hw253_0)).trans hw253_0),((HB.out.cell (World.block_lt_of_cell? w _ hw253_1)).trans hw253_1),((HB.out.cell (World.block_lt_of_cell? w _ hw257_0)).trans hw257_0),((HB.out.cell (World.block_lt_of_cell? w _ hw257_1)).trans hw257_1)⟩ (fun hHeld=>?_);clear hK K;refine norm_ (a':=?_) ?_ ?_;rotate_left
        ·
         show Act.put _ (some 26) _=_;simp only [Act.put,List.setIfInBounds_toArray,List.set_cons_zero,List.set_cons_succ,i64_w,i32_w];rfl
        refine one_ (i:=10) (N:=some 27) #[true,true,true,true,true,true,true,true,true,true,true,false] rfl rfl (one_of HT_.out (by kernel_rfl)) (by decide) (fun K hK=>?_);refine goes_ Try.func74 (by kernel_rfl) rfl #[.slice Ao14 t254.length co14,.slice Ao15 t258.length co15] (by rfl) rfl rfl (by (try simp only [List.map_toArray,List.map_cons,List.map_nil]);first|done|rfl|(simp only [List.length_drop,List.length_take];rfl)) ?_;with_reducible refine (bellpullref01_SameLists.calls k1 _ _ t254 _ _ t258 true _ ?side1 ?side2 ?side3 ?side4 A9.out).mono ?_
        (case side1=>repeat (first|exact (Kd.N_reads' HO256.out).2.2|(with_reducible refine Kd.C_alloc ?_ _)|(with_reducible refine Kd.C_drewN ?_ _)|(with_reducible refine Kd.C_drew ?_)));(case side2=>exact (Kd.N_reads' HO256.out).2.1);(case side3=>repeat (first|exact (Kd.N_reads' HO260.out).2.2|(with_reducible refine Kd.C_alloc ?_ _)|(with_reducible refine Kd.C_drewN ?_ _)|(with_reducible refine Kd.C_drew ?_)));(case side4=>exact (Kd.N_reads' HO260.out).2.1);rintro e w' ⟨rfl,⟨nd,rfl⟩⟩;refine ⟨_,rfl,?_⟩;refine hK.out _ _ ⟨((HB.out.cell (World.block_lt_of_cell? w _ hw253_0)).trans hw253_0),((HB.out.cell (World.block_lt_of_cell? w _ hw253_1)).trans hw253_1),((HB.out.cell (World.block_lt_of_cell? w _ hw257_0)).trans hw257_0),((HB.out.cell (World.block_lt_of_cell? w _ hw257_1)).trans hw257_1)⟩ (fun hHeld=>?_);clear hK K;refine norm_ (a':=?_) ?_ ?_;rotate_left
        ·
         show Act.put _ (some 27) _=_;simp only [Act.put,List.setIfInBounds_toArray,List.set_cons_zero,List.set_cons_succ,i64_w,i32_w];rfl
        refine pure_ (i:=11) (N:=some 28) (v:=?_) (a':=?_) #[true,true,true,true,true,true,true,true,true,true,true,true] rfl rfl (any_of HT_.out (by kernel_rfl)) (fun _ _ _ h=>h) (Or.inl ⟨by rfl,?_⟩) ?_ ?_;rotate_left
        ·
         intro w';go_simp;with_reducible rfl
        rotate_left
        ·
         simp only [Act.put,List.setIfInBounds_toArray,List.set_cons_zero,List.set_cons_succ,i64_w,i32_w];rfl
        refine done_ (done_of HT_.out (by kernel_rfl)) ?_;try go_wp2
        go_roundg k1
        case measure=>have:=HK1.out;omega
        case rel=>exact ⟨(wrap64 (x5_1 + 1)),(by first|rfl|(simp;done)|(simp [*];done)),H',⟨by have:=HK1.out;omega⟩,⟨by repeat (first|(with_reducible first|exact HB.out|apply below_alloc|apply pw_below_drewN|apply below_drew1)|exact HB.out)⟩⟩
       ·
        replace c10:=Bool.eq_false_iff.mpr c10;subst c10;have H1:(some false)=some r:=by rw [if_neg (show ¬ (false=true) by decide)] at H;exact H
        clear H;have H:=H1;clear H1;obtain rfl:=Option.some.inj H;try go_wp2
        replace HB:=hdr HB;have p253:0 ≤ (x5_1:Int):=of_decide_eq_true (by first|(with_reducible assumption)|assumption);have q253:x5_1 < (l0.length:Int):=of_decide_eq_true (by first|(with_reducible assumption)|assumption);obtain ⟨ad253,A253_0,c253_0,A253_1,c253_1,e253,hx253_0,hx253_1,hl253_0,hi253_0,hl253_1,hi253_1⟩:=at_T60 HR0.out x5_1 p253 q253;have hw253_1:=hx253_1;have hw253_0:=hx253_0;cases e253;replace hx253_0:=(HB.out.cell (World.block_lt_of_cell? w _ hx253_0)).trans hx253_0;replace hx253_1:=(HB.out.cell (World.block_lt_of_cell? w _ hx253_1)).trans hx253_1;have HR253_0:=mk0 hi253_0;have HC253_0:=mk0 hl253_0;clear hi253_0 hl253_0;have HR253_1:=mk0 hi253_1;have HC253_1:=mk0 hl253_1;clear hi253_1 hl253_1;replace p253:=eq_true p253;replace q253:=eq_true q253;have p257:0 ≤ (x5_1:Int):=of_decide_eq_true (by first|(with_reducible assumption)|assumption);have q257:x5_1 < (l1.length:Int):=of_decide_eq_true (by first|(with_reducible assumption)|assumption);obtain ⟨ad257,A257_0,c257_0,A257_1,c257_1,e257,hx257_0,hx257_1,hl257_0,hi257_0,hl257_1,hi257_1⟩:=at_T60 HR1.out x5_1 p257 q257;have hw257_1:=hx257_1;have hw257_0:=hx257_0;cases e257;replace hx257_0:=(HB.out.cell (World.block_lt_of_cell? w _ hx257_0)).trans hx257_0;replace hx257_1:=(HB.out.cell (World.block_lt_of_cell? w _ hx257_1)).trans hx257_1;have HR257_0:=mk0 hi257_0;have HC257_0:=mk0 hl257_0;clear hi257_0 hl257_0;have HR257_1:=mk0 hi257_1;have HC257_1:=mk0 hl257_1;clear hi257_1 hl257_1;replace p257:=eq_true p257;replace q257:=eq_true q257;refine start_ (n:=12) (S:=fun w'=>w'.cell? (ad253.add ((x5_1).toNat * 2))=some (.slice A253_0 ((rd_T60 l0 x5_1).f0).length c253_0)∧w'.cell? ⟨(ad253.add ((x5_1).toNat * 2)).block,(ad253.add ((x5_1).toNat * 2)).off + 1,none⟩=some (.slice A253_1 ((rd_T60 l0 x5_1).f1).length c253_1)∧w'.cell? (ad257.add ((x5_1).toNat * 2))=some (.slice A257_0 ((rd_T60 l1 x5_1).f0).length c257_0)∧w'.cell? ⟨(ad257.add ((x5_1).toNat * 2)).block,(ad257.add ((x5_1).toNat * 2)).off + 1,none⟩=some (.slice A257_1 ((rd_T60 l1 x5_1).f1).length c257_1)) (ds:=[]) #[false,false,false,false,false,false,false,false,false,false,false,false] (by kernel_rfl) rfl rfl ⟨((HB.out.cell (World.block_lt_of_cell? w _ hw253_0)).trans hw253_0),((HB.out.cell (World.block_lt_of_cell? w _ hw253_1)).trans hw253_1),((HB.out.cell (World.block_lt_of_cell? w _ hw257_0)).trans hw257_0),((HB.out.cell (World.block_lt_of_cell? w _ hw257_1)).trans hw257_1)⟩ (fun hHeld=>?_);refine with_tabW bellpullref05_Same.tab6 bellpullref05_Same.bits6 (fun HT_ HW_=>?_);generalize wr.drew=w16 at HB HR253_0 HR253_1 HR257_0 HR257_1 hx253_0 hx253_1 hx257_0 hx257_1 hHeld ⊢;refine pure_ (i:=0) (N:=some 17) (v:=?_) (a':=?_) #[true,false,false,false,false,false,false,false,false,false,false,false] rfl rfl (any_of HT_.out (by kernel_rfl)) (fun _ _ _ h=>h) (Or.inl ⟨by rfl,?_⟩) ?_ ?_;rotate_left
        ·
         intro w';go_simp;with_reducible rfl
        rotate_left
        ·
         simp only [Act.put,List.setIfInBounds_toArray,List.set_cons_zero,List.set_cons_succ,i64_w,i32_w];rfl
        refine pure_ (i:=1) (N:=some 18) (v:=?_) (a':=?_) #[true,true,false,false,false,false,false,false,false,false,false,false] rfl rfl (any_of HT_.out (by kernel_rfl)) (fun _ _ _ h=>h) (Or.inl ⟨by rfl,?_⟩) ?_ ?_;rotate_left
        ·
         intro w';go_simp;with_reducible rfl
        rotate_left
        ·
         simp only [Act.put,List.setIfInBounds_toArray,List.set_cons_zero,List.set_cons_succ,i64_w,i32_w];rfl
        refine pure_ (i:=2) (N:=some 19) (v:=?_) (a':=?_) #[true,true,true,false,false,false,false,false,false,false,false,false] rfl rfl (any_of HT_.out (by kernel_rfl)) (fun _ _ _ h=>h) (Or.inl ⟨by rfl,?_⟩) ?_ ?_;rotate_left
        ·
         intro w';go_simp;with_reducible rfl
        rotate_left
        ·
         simp only [Act.put,List.setIfInBounds_toArray,List.set_cons_zero,List.set_cons_succ,i64_w,i32_w];rfl
        refine pure_ (i:=5) (N:=some 22) (v:=?_) (a':=?_) #[true,true,true,false,false,true,false,false,false,false,false,false] rfl rfl (any_of HT_.out (by kernel_rfl)) (fun _ _ _ h=>h) (Or.inl ⟨by rfl,?_⟩) ?_ ?_;rotate_left
        ·
         intro w';go_simp;with_reducible rfl
        rotate_left
        ·
         simp only [Act.put,List.setIfInBounds_toArray,List.set_cons_zero,List.set_cons_succ,i64_w,i32_w];rfl
        refine pure_ (i:=6) (N:=some 23) (v:=?_) (a':=?_) #[true,true,true,false,false,true,true,false,false,false,false,false] rfl rfl (any_of HT_.out (by kernel_rfl)) (fun _ _ _ h=>h) (Or.inl ⟨by rfl,?_⟩) ?_ ?_;rotate_left
        ·
         intro w';go_simp;with_reducible rfl
        rotate_left
        ·
         simp only [Act.put,List.setIfInBounds_toArray,List.set_cons_zero,List.set_cons_succ,i64_w,i32_w];rfl
        refine pure_ (i:=7) (N:=some 24) (v:=?_) (a':=?_) #[true,true,true,false,false,true,true,true,false,false,false,false] rfl rfl (any_of HT_.out (by kernel_rfl)) (fun _ _ _ h=>h) (Or.inl ⟨by rfl,?_⟩) ?_ ?_;rotate_left
        ·
         intro w';go_simp;with_reducible rfl
        rotate_left
        ·
         simp only [Act.put,List.setIfInBounds_toArray,List.set_cons_zero,List.set_cons_succ,i64_w,i32_w];rfl
        refine take_ (i:=3) (N:=some 20) (v:=?_) (a':=?_) #[true,true,true,true,false,true,true,true,false,false,false,false] rfl rfl (take_ofW HT_.out HW_.out (by kernel_rfl)) (fun _ _ _ h=>h) (Or.inl ⟨by rfl,?_⟩) hHeld ?_ ?_;rotate_left
        ·
         rintro w' ⟨s0,s1,s2,s3⟩;go_simp;with_reducible rfl
        rotate_left
        ·
         simp only [Act.put,List.setIfInBounds_toArray,List.set_cons_zero,List.set_cons_succ,i64_w,i32_w];rfl
        refine take_ (i:=8) (N:=some 25) (v:=?_) (a':=?_) #[true,true,true,true,false,true,true,true,true,false,false,false] rfl rfl (take_ofW HT_.out HW_.out (by kernel_rfl)) (fun _ _ _ h=>h) (Or.inl ⟨by rfl,?_⟩) hHeld ?_ ?_;rotate_left
        ·
         rintro w' ⟨s0,s1,s2,s3⟩;go_simp;with_reducible rfl
        rotate_left
        ·
         simp only [Act.put,List.setIfInBounds_toArray,List.set_cons_zero,List.set_cons_succ,i64_w,i32_w];rfl
        refine one_ (i:=4) (N:=some 21) #[true,true,true,true,true,true,true,true,true,false,false,false] rfl rfl (one_of HT_.out (by kernel_rfl)) (by decide) (fun K hK=>?_);refine goes_ Try.func75 (by kernel_rfl) rfl #[.agg #[.slice A253_0 ((rd_T60 l0 x5_1).f0).length c253_0,.slice A253_1 ((rd_T60 l0 x5_1).f1).length c253_1]] (by rfl) rfl rfl (by (try simp only [List.map_toArray,List.map_cons,List.map_nil]);first|done|rfl|(simp only [List.length_drop,List.length_take];rfl)) ?_;with_reducible refine (bellpullref05_vectors.calls (fun k_=>k_ < w.heap.size) _ _ ((rd_T60 l0 x5_1).f0) (fun k_=>k_ < w.heap.size) _ _ ((rd_T60 l0 x5_1).f1) t254 _ ?side1 ?side2 A6.out).mono ?_
        (case side1=>exact Kd.V_mk HC253_0.out (Kd.F_below (Kd.C_F (Kd.heap_int .i64) HR253_0.out) HB.out));(case side2=>exact Kd.V_mk HC253_1.out (Kd.F_below (Kd.C_F (Kd.heap_slice 3 (Kd.heap_int .i64)) HR253_1.out) HB.out));rintro e w17 ⟨v255,rfl,ho0,hb⟩;refine ⟨_,rfl,?_⟩;have HO256:=mk0 (Kd.N_lower (Kd.N_mono (ok':=fun k_=>True) ho0 (fun k_ hk_=>trivial)) (below_size HB.out));replace HB:=bst HB hb;(try clear hb);(try clear ho0);refine hK.out _ _ ⟨((HB.out.cell (World.block_lt_of_cell? w _ hw253_0)).trans hw253_0),((HB.out.cell (World.block_lt_of_cell? w _ hw253_1)).trans hw253_1),((HB.out.cell (World.block_lt_of_cell? w _ hw257_0)).trans hw257_0),((HB.out.cell (World.block_lt_of_cell? w _ hw257_1)).trans hw257_1)⟩ (fun hHeld=>?_);clear hK K;refine norm_ (a':=?_) ?_ ?_;rotate_left
        ·
         show Act.put _ (some 21) _=_;simp only [Act.put,List.setIfInBounds_toArray,List.set_cons_zero,List.set_cons_succ,i64_w,i32_w];rfl
        refine one_ (i:=9) (N:=some 26) #[true,true,true,true,true,true,true,true,true,true,false,false] rfl rfl (one_of HT_.out (by kernel_rfl)) (by decide) (fun K hK=>?_);refine goes_ Try.func75 (by kernel_rfl) rfl #[.agg #[.slice A257_0 ((rd_T60 l1 x5_1).f0).length c257_0,.slice A257_1 ((rd_T60 l1 x5_1).f1).length c257_1]] (by rfl) rfl rfl (by (try simp only [List.map_toArray,List.map_cons,List.map_nil]);first|done|rfl|(simp only [List.length_drop,List.length_take];rfl)) ?_;with_reducible refine (bellpullref05_vectors.calls (fun k_=>k_ < w.heap.size) _ _ ((rd_T60 l1 x5_1).f0) (fun k_=>k_ < w.heap.size) _ _ ((rd_T60 l1 x5_1).f1) t258 _ ?side1 ?side2 A8.out).mono ?_
        (case side1=>exact Kd.V_mk HC257_0.out (Kd.F_below (Kd.C_F (Kd.heap_int .i64) HR257_0.out) HB.out));(case side2=>exact Kd.V_mk HC257_1.out (Kd.F_below (Kd.C_F (Kd.heap_slice 3 (Kd.heap_int .i64)) HR257_1.out) HB.out));rintro e w18 ⟨v259,rfl,ho0,hb⟩;refine ⟨_,rfl,?_⟩;have HO260:=mk0 (Kd.N_lower (Kd.N_mono (ok':=fun k_=>some k_ ≠ (v255:Value).ownBlock) ho0 (fun k_ hk_=>Or.elim hk_ (fun hs_=>Or.elim hs_ (fun hs_=>fun e_=>Nat.not_le.2 hs_ (Kd.N_base HO256.out k_ e_.symm)) (fun hs_=>fun e_=>Nat.not_le.2 hs_ (Kd.N_base HO256.out k_ e_.symm))) (fun hn_=>(Kd.fresh' (Kd.N_lt HO256.out) k_ hn_)))) (below_size HB.out));replace HO256:=mk0 (Kd.N_elder' HO256.out (by first|exact Kd.N_base ho0|exact Kd.S_base ho0|exact Kd.R_base ho0) hb);replace HB:=bst HB hb;(try clear hb);(try clear ho0);obtain ⟨Ao19,co19,eo19⟩:=Kd.N_slice HO256.out;(first|subst eo19|(injection eo19 with f1_ f2_ f3_;have f4_:=f1_.symm;have f5_:=f3_.symm;clear f1_ f2_ f3_;subst f4_;subst f5_));obtain ⟨Ao20,co20,eo20⟩:=Kd.N_slice HO260.out;(first|subst eo20|(injection eo20 with f1_ f2_ f3_;have f4_:=f1_.symm;have f5_:=f3_.symm;clear f1_ f2_ f3_;subst f4_;subst f5_));refine hK.out _ _ ⟨((HB.out.cell (World.block_lt_of_cell? w _ hw253_0)).trans hw253_0),((HB.out.cell (World.block_lt_of_cell? w _ hw253_1)).trans hw253_1),((HB.out.cell (World.block_lt_of_cell? w _ hw257_0)).trans hw257_0),((HB.out.cell (World.block_lt_of_cell? w _ hw257_1)).trans hw257_1)⟩ (fun hHeld=>?_);clear hK K;refine norm_ (a':=?_) ?_ ?_;rotate_left
        ·
         show Act.put _ (some 26) _=_;simp only [Act.put,List.setIfInBounds_toArray,List.set_cons_zero,List.set_cons_succ,i64_w,i32_w];rfl
        refine one_ (i:=10) (N:=some 27) #[true,true,true,true,true,true,true,true,true,true,true,false] rfl rfl (one_of HT_.out (by kernel_rfl)) (by decide) (fun K hK=>?_);refine goes_ Try.func74 (by kernel_rfl) rfl #[.slice Ao19 t254.length co19,.slice Ao20 t258.length co20] (by rfl) rfl rfl (by (try simp only [List.map_toArray,List.map_cons,List.map_nil]);first|done|rfl|(simp only [List.length_drop,List.length_take];rfl)) ?_;with_reducible refine (bellpullref01_SameLists.calls k1 _ _ t254 _ _ t258 false _ ?side1 ?side2 ?side3 ?side4 A9.out).mono ?_
        (case side1=>repeat (first|exact (Kd.N_reads' HO256.out).2.2|(with_reducible refine Kd.C_alloc ?_ _)|(with_reducible refine Kd.C_drewN ?_ _)|(with_reducible refine Kd.C_drew ?_)));(case side2=>exact (Kd.N_reads' HO256.out).2.1);(case side3=>repeat (first|exact (Kd.N_reads' HO260.out).2.2|(with_reducible refine Kd.C_alloc ?_ _)|(with_reducible refine Kd.C_drewN ?_ _)|(with_reducible refine Kd.C_drew ?_)));(case side4=>exact (Kd.N_reads' HO260.out).2.1);rintro e w' ⟨rfl,⟨nd,rfl⟩⟩;refine ⟨_,rfl,?_⟩;refine hK.out _ _ ⟨((HB.out.cell (World.block_lt_of_cell? w _ hw253_0)).trans hw253_0),((HB.out.cell (World.block_lt_of_cell? w _ hw253_1)).trans hw253_1),((HB.out.cell (World.block_lt_of_cell? w _ hw257_0)).trans hw257_0),((HB.out.cell (World.block_lt_of_cell? w _ hw257_1)).trans hw257_1)⟩ (fun hHeld=>?_);clear hK K;refine norm_ (a':=?_) ?_ ?_;rotate_left
        ·
         show Act.put _ (some 27) _=_;simp only [Act.put,List.setIfInBounds_toArray,List.set_cons_zero,List.set_cons_succ,i64_w,i32_w];rfl
        refine pure_ (i:=11) (N:=some 28) (v:=?_) (a':=?_) #[true,true,true,true,true,true,true,true,true,true,true,true] rfl rfl (any_of HT_.out (by kernel_rfl)) (fun _ _ _ h=>h) (Or.inl ⟨by rfl,?_⟩) ?_ ?_;rotate_left
        ·
         intro w';go_simp;with_reducible rfl
        rotate_left
        ·
         simp only [Act.put,List.setIfInBounds_toArray,List.set_cons_zero,List.set_cons_succ,i64_w,i32_w];rfl
        refine done_ (done_of HT_.out (by kernel_rfl)) ?_;try go_wp2
        go_ret;exact ⟨by first|rfl|(simp [errW_none,errW_some] <;> rfl)|(simp [*,errW_none,errW_some] <;> rfl),by repeat (first|(with_reducible first|exact HB.out|apply below_alloc|apply pw_below_drewN|apply below_drew1)|exact HB.out)⟩
      ·
       rw [if_neg c7] at H;exact absurd H (by simp)
     ·
      rw [if_neg c5] at H;exact absurd H (by simp)
    ·
     rw [if_neg c4] at H;have c4b0:decide (x5_1 < (l0.length:Int))=false:=decide_eq_false c4;clear c4;obtain rfl:=Option.some.inj H;go_wp2;go_ret;exact ⟨by first|rfl|(simp [errW_none,errW_some] <;> rfl)|(simp [*,errW_none,errW_some] <;> rfl),by repeat (first|(with_reducible first|exact HB.out|apply below_alloc|apply pw_below_drewN|apply below_drew1)|exact HB.out)⟩
 ·
  rw [if_neg c3] at H;have c3b0:((l0.length:Int) == (l1.length:Int))=false:=beq_eq_false_iff_ne.mpr c3;have c3b1:((l0.length:Int) != (l1.length:Int))=true:=bne_iff_ne.mpr c3;have c3b2:(l0.length == l1.length)=false:=by first|simpa using c3|(simp at c3 ⊢;omega)
  obtain rfl:=Option.some.inj H;go_enter Try.func31,Try.ntmps31;go_wp2;go_ret;exact ⟨by first|rfl|(simp [errW_none,errW_some] <;> rfl)|(simp [*,errW_none,errW_some] <;> rfl),by repeat (first|(with_reducible first|exact HB.out|apply below_alloc|apply pw_below_drewN|apply below_drew1)|exact HB.out)⟩
end Go.Proofs.Ytkonljiembcdlaa.PC
