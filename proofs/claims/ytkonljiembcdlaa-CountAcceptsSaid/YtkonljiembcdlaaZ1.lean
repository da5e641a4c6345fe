import Derived.Test.YtkonljiembcdlaaPCx0
import Derived.Test.YtkonljiembcdlaaMyTiny
import Derived.Test.YtkonljiembcdlaaPCx2
import Derived.Test.YtkonljiembcdlaaPCx5
import Derived.Test.YtkonljiembcdlaaMach
import Derived.Test.YtkonljiembcdlaaPCx1
import Derived.Test.YtkonljiembcdlaaWMore
import Derived.Test.YtkonljiembcdlaaPCx4
import Derived.Test.YtkonljiembcdlaaZ0
namespace Go.Proofs.Ytkonljiembcdlaa.PC
open Go.Proofs.MyWords Go.RowKit Go.Proofs.YtkonljiembcdlaaW.PrintWords Go.Proofs.YtkonljiembcdlaaW.PrintLast Go.Proofs.YtkonljiembcdlaaW.PrintMore
attribute [local go_sem] max2_int min2_int max_two min_two max_three min_three max_four min_four   -- for this text's walks alone
set_option linter.unusedVariables false
set_option linter.unusedSimpArgs false
attribute [local go_sem] eqGuard_slices eqlnil23 neqnil23 eqlnil58 neqnil58
mutual
def bellpullref05_Images.l0:Nat → List Bool → List Bool → List Bool → Int → Option (List Bool)
  | 0,_,_,_,_=>none
  | k + 1,x6,x7,x8,x9=>if x9 < (x6.length:Int) then (if 0 ≤ x9 then (if x9 < (x7.length:Int) then (if rdOf false x7 x9=true then (bellpullref05_Images.l0 k (x6.set (x9:Int).toNat true) x7 x8 (wrap64 (x9 + 1))) else (if x9 < (x8.length:Int) then (bellpullref05_Images.l0 k (x6.set (x9:Int).toNat (rdOf false x8 x9)) x7 x8 (wrap64 (x9 + 1))) else (none))) else (none)) else (none)) else (some x6)
def bellpullref05_Images.l1:Nat → List Bool → List Bool → Bool → Option (List Bool)
  | 0,_,_,_=>none
  | k + 1,x6,x10,x11=>if x11=true then ((bellpullref05_joined.f k x6 x10).bind fun t615=>(bellpullref05_Images.l2 k x6 x10 false t615 0)) else (some x6)
def bellpullref05_Images.l2:Nat → List Bool → List Bool → Bool → List Bool → Int → Option (List Bool)
  | 0,_,_,_,_,_=>none
  | k + 1,x6,x10,x11,x12,x13=>if x13 < (x6.length:Int) then (if x11=true then (if 0 ≤ x13 then (if rdOf false x6 x13=true then (bellpullref05_Images.l2 k (x6.set (x13:Int).toNat true) x10 true x12 (wrap64 (x13 + 1))) else (if x13 < (x12.length:Int) then (bellpullref05_Images.l2 k (x6.set (x13:Int).toNat (rdOf false x12 x13)) x10 true x12 (wrap64 (x13 + 1))) else (none))) else (none)) else (if 0 ≤ x13 then (if x13 < (x12.length:Int) then (if rdOf false x12 x13=true then (if rdOf false x6 x13=true then (bellpullref05_Images.l2 k (x6.set (x13:Int).toNat true) x10 (!(rdOf false x6 x13)) x12 (wrap64 (x13 + 1))) else (bellpullref05_Images.l2 k (x6.set (x13:Int).toNat (rdOf false x12 x13)) x10 (!(rdOf false x6 x13)) x12 (wrap64 (x13 + 1)))) else (if rdOf false x6 x13=true then (bellpullref05_Images.l2 k (x6.set (x13:Int).toNat true) x10 false x12 (wrap64 (x13 + 1))) else (bellpullref05_Images.l2 k (x6.set (x13:Int).toNat (rdOf false x12 x13)) x10 false x12 (wrap64 (x13 + 1))))) else (none)) else (none))) else (bellpullref05_Images.l1 k x6 x10 x11)
def bellpullref05_Images.f:Nat → List (S98) → Int → Option (List Bool)
  | 0,_,_=>none
  | k + 1,l0,a1=>if 0 ≤ a1 then (if a1 < (l0.length:Int) then (if 729 ≤ 281474976710656 then ((some (List.replicate 729 false:List Bool)).bind fun y583=>(if ((rd_T98 l0 a1).f0)=43 then (if 0 < (((rd_T98 l0 a1).f1).length:Int) then ((bellpullref05_Images.f k l0 (rd ((rd_T98 l0 a1).f1) 0)).bind fun t588=>(if 1 < (((rd_T98 l0 a1).f1).length:Int) then ((bellpullref05_Images.f k l0 (rd ((rd_T98 l0 a1).f1) 1)).bind fun t592=>(bellpullref05_Images.l0 k y583 t588 t592 0)) else (none))) else (none)) else (if ((rd_T98 l0 a1).f0)=46 then (if 0 < (((rd_T98 l0 a1).f1).length:Int) then ((bellpullref05_Images.f k l0 (rd ((rd_T98 l0 a1).f1) 0)).bind fun t600=>(if 1 < (((rd_T98 l0 a1).f1).length:Int) then ((bellpullref05_Images.f k l0 (rd ((rd_T98 l0 a1).f1) 1)).bind fun t604=>((bellpullref05_joined.f k t600 t604).bind fun t607=>(some t607))) else (none))) else (none)) else (if ((rd_T98 l0 a1).f0)=42 then (if 0 < (((rd_T98 l0 a1).f1).length:Int) then ((bellpullref05_Images.f k l0 (rd ((rd_T98 l0 a1).f1) 0)).bind fun t611=>(if 0 < (y583.length:Int) then (bellpullref05_Images.l1 k (y583.set (0:Int).toNat true) t611 true) else (none))) else (none)) else ((bellpullref05_letter.f ((rd_T98 l0 a1).f0)).bind fun t632=>((bellpullref05_index.f t632).bind fun t635=>(if 0 ≤ t635 then (if t635 < (y583.length:Int) then (some (y583.set (t635:Int).toNat true)) else (none)) else (none)))))))) else (none)) else (none)) else (none)
end
def bellpullref05_Images.T1:Bool × List (List Nat × List Nat):=(true,[([],[]),([],[]),([0,1],[0,1]),([2],[2]),([],[]),([],[]),([5,3,0,1,2,3,5],[3,5]),([4,6,0,1,2,3,4,5,6],[4])])
def bellpullref05_Images.B1:List Nat:=[0,0,3,7,0,0,47,127]
theorem bellpullref05_Images.tab1:rtab .any (opsOf Try.f62 1)=bellpullref05_Images.T1:=by kernel_rfl
theorem bellpullref05_Images.bits1:waitsOk bellpullref05_Images.T1.2 bellpullref05_Images.B1=true:=by kernel_rfl
def bellpullref05_Images.T5:Bool × List (List Nat × List Nat):=(true,[([],[]),([],[]),([1],[1]),([2],[2]),([3],[3]),([0,4],[0,4]),([],[]),([],[]),([7],[7]),([8],[8]),([9],[9]),([6,10,5],[6,10]),([5,11,0,1,2,3,4,5],[5]),([11,12,0,1,2,3,4,5,6,7,8,9,10,11,12],[11])])
def bellpullref05_Images.B5:List Nat:=[0,0,2,6,14,31,0,0,128,384,896,2047,4095,8191]
theorem bellpullref05_Images.tab5:rtab .any (opsOf Try.f62 5)=bellpullref05_Images.T5:=by kernel_rfl
theorem bellpullref05_Images.bits5:waitsOk bellpullref05_Images.T5.2 bellpullref05_Images.B5=true:=by kernel_rfl
def bellpullref05_Images.T11:Bool × List (List Nat × List Nat):=(true,[([],[]),([],[]),([1],[1]),([2],[2]),([3],[3]),([0,4],[0,4]),([],[]),([],[]),([7],[7]),([8],[8]),([9],[9]),([6,10,5],[6,10]),([5,11,11],[5,11]),([12,12,0,1,2,3,4,5,6,7,8,9,10,11,12],[12])])
def bellpullref05_Images.B11:List Nat:=[0,0,2,6,14,31,0,0,128,384,896,2047,4095,8191]
theorem bellpullref05_Images.tab11:rtab .any (opsOf Try.f62 11)=bellpullref05_Images.T11:=by kernel_rfl
theorem bellpullref05_Images.bits11:waitsOk bellpullref05_Images.T11.2 bellpullref05_Images.B11=true:=by kernel_rfl
set_option maxHeartbeats 8000000 in
set_option maxRecDepth 100000 in
theorem bellpullref05_Images.calls (k:Nat):∀ (A0:Option Addr) (c0:Nat) (O:List (S98)) (M:Int) (r:List Bool) (w:World) (D2:Kd.C k98 w A0 O.length O) (D3:O.length ≤ c0) (h:bellpullref05_Images.f k O M=some r),
    Calls Try.prog 62 #[.slice A0 O.length c0,.int .i64 M] w fun e w'=>∃ M1:Value,e=.returned (M1)∧Kd.R Kd.bool 4 w' w.heap.size (fun _=>True) M1 r∧Below w.heap.size w w':=by
 induction k using Nat.strongRecOn with
 | _ k ih =>
 intro A0 c0 O M r w D2 D3 h;cases k with
 | zero=>exact absurd h (by simp [bellpullref05_Images.f])
 | succ k =>
 simp only [bellpullref05_Images.f] at h;have Y9:=Try.underlying98;have j2:=mk0 D2;have u0:=mk0 D3;clear D2 D3;have J:=mk0 (Below.refl w.heap.size w);have H:(if 0 ≤ M then (if M < (O.length:Int) then (if 729 ≤ 281474976710656 then ((some (List.replicate 729 false:List Bool)).bind fun b5=>(if ((rd_T98 O M).f0)=43 then (if 0 < (((rd_T98 O M).f1).length:Int) then ((bellpullref05_Images.f k O (rd ((rd_T98 O M).f1) 0)).bind fun d0=>(if 1 < (((rd_T98 O M).f1).length:Int) then ((bellpullref05_Images.f k O (rd ((rd_T98 O M).f1) 1)).bind fun c2=>(bellpullref05_Images.l0 k b5 d0 c2 0)) else (none))) else (none)) else (if ((rd_T98 O M).f0)=46 then (if 0 < (((rd_T98 O M).f1).length:Int) then ((bellpullref05_Images.f k O (rd ((rd_T98 O M).f1) 0)).bind fun h5=>(if 1 < (((rd_T98 O M).f1).length:Int) then ((bellpullref05_Images.f k O (rd ((rd_T98 O M).f1) 1)).bind fun h6=>((bellpullref05_joined.f k h5 h6).bind fun m9=>(some m9))) else (none))) else (none)) else (if ((rd_T98 O M).f0)=42 then (if 0 < (((rd_T98 O M).f1).length:Int) then ((bellpullref05_Images.f k O (rd ((rd_T98 O M).f1) 0)).bind fun a0=>(if 0 < (b5.length:Int) then (bellpullref05_Images.l1 k (b5.set (0:Int).toNat true) a0 true) else (none))) else (none)) else ((bellpullref05_letter.f ((rd_T98 O M).f0)).bind fun g9=>((bellpullref05_index.f g9).bind fun d2=>(if 0 ≤ d2 then (if d2 < (b5.length:Int) then (some (b5.set (d2:Int).toNat true)) else (none)) else (none)))))))) else (none)) else (none)) else (none))=some r:=h;clear h;by_cases c3:0 ≤ M
 ·
  rw [if_pos c3] at H;have c3b0:decide (0 ≤ M)=true:=decide_eq_true c3;clear c3;by_cases c4:M < (O.length:Int)
  ·
   rw [if_pos c4] at H;have c4b0:decide (M < (O.length:Int))=true:=decide_eq_true c4;clear c4;by_cases c5:729 ≤ 281474976710656
   ·
    rw [if_pos c5] at H;have c5b0:=eq_true c5;have c5b1:decide (729 ≤ 281474976710656)=true:=decide_eq_true c5;clear c5;obtain ⟨b5,j3⟩:∃ y_:List Bool,y_=(List.replicate 729 false):=⟨_,rfl⟩;(replace H:(if ((rd_T98 O M).f0)=43 then (if 0 < (((rd_T98 O M).f1).length:Int) then ((bellpullref05_Images.f k O (rd ((rd_T98 O M).f1) 0)).bind fun d0=>(if 1 < (((rd_T98 O M).f1).length:Int) then ((bellpullref05_Images.f k O (rd ((rd_T98 O M).f1) 1)).bind fun c2=>(bellpullref05_Images.l0 k b5 d0 c2 0)) else (none))) else (none)) else (if ((rd_T98 O M).f0)=46 then (if 0 < (((rd_T98 O M).f1).length:Int) then ((bellpullref05_Images.f k O (rd ((rd_T98 O M).f1) 0)).bind fun h5=>(if 1 < (((rd_T98 O M).f1).length:Int) then ((bellpullref05_Images.f k O (rd ((rd_T98 O M).f1) 1)).bind fun h6=>((bellpullref05_joined.f k h5 h6).bind fun m9=>(some m9))) else (none))) else (none)) else (if ((rd_T98 O M).f0)=42 then (if 0 < (((rd_T98 O M).f1).length:Int) then ((bellpullref05_Images.f k O (rd ((rd_T98 O M).f1) 0)).bind fun a0=>(if 0 < (b5.length:Int) then (bellpullref05_Images.l1 k (b5.set (0:Int).toNat true) a0 true) else (none))) else (none)) else ((bellpullref05_letter.f ((rd_T98 O M).f0)).bind fun g9=>((bellpullref05_index.f g9).bind fun d2=>(if 0 ≤ d2 then (if d2 < (b5.length:Int) then (some (b5.set (d2:Int).toNat true)) else (none)) else (none)))))))=some r:=by first|(rw [j3];with_reducible exact H)|(have b6:=(Option.bind_some _ _).symm.trans H;rw [j3];with_reducible exact b6)|(have b6:=(Option.bind_some _ _).symm.trans H;with_reducible exact b6)|with_reducible exact H|(rw [j3];exact H)|exact H);have b8:=mk0 j3;clear j3;by_cases c6:((rd_T98 O M).f0)=43
    ·
     rw [if_pos c6] at H;have c6b0:(((rd_T98 O M).f0) == 43)=true:=beq_iff_eq.mpr c6;have c6b1:(((rd_T98 O M).f0) != 43)=false:=bne_eq_false_iff_eq.mpr c6;clear c6;by_cases c7:0 < (((rd_T98 O M).f1).length:Int)
     ·
      rw [if_pos c7] at H;have c7b0:decide (0 < (((rd_T98 O M).f1).length:Int))=true:=decide_eq_true c7;have c7b1:decide (0 < ((rd_T98 O M).f1).length)=true:=decide_eq_true (by omega);clear c7;replace H:=Option.bind_eq_some_iff.mp H;obtain ⟨d0,M2,H⟩:=H;(try dsimp only at H);have A8:=mk0 M2;clear M2;by_cases c9:1 < (((rd_T98 O M).f1).length:Int)
      ·
       (rw [if_pos c9] at H;have c9b0:decide (1 < (((rd_T98 O M).f1).length:Int))=true:=decide_eq_true c9;have c9b1:decide (1 < ((rd_T98 O M).f1).length)=true:=decide_eq_true (by omega);clear c9;replace H:=Option.bind_eq_some_iff.mp H;obtain ⟨c2,D4,H⟩:=H;(try dsimp only at H);have T6:=mk0 D4;clear D4;have H':=mk0 H;clear H;go_enter Try.func62,Try.ntmps62;try go_wp2);replace J:=hdr J;have e2:0 ≤ (M:Int):=of_decide_eq_true (by first|(with_reducible assumption)|assumption);have e3:M < (O.length:Int):=of_decide_eq_true (by first|(with_reducible assumption)|assumption);obtain ⟨a4,a3,U,h7,a8,a9,d3,d4⟩:=at_T98 j2.1 M e2 e3;have D:=a9;have E:=a8;cases h7;replace a8:=bd_ J a8;replace a9:=bd_ J a9;have d1:=mk0 d4;have m4:=mk0 d3;clear d4 d3;replace e2:=eq_true e2;replace e3:=eq_true e3;refine start_ (n:=8) (S:=fun w'=>w'.cell? (a4.add ((M).toNat * 2))=some (.int .u8 ((rd_T98 O M).f0))∧w'.cell? ⟨(a4.add ((M).toNat * 2)).block,(a4.add ((M).toNat * 2)).off + 1,none⟩=some (.slice a3 ((rd_T98 O M).f1).length U)) (ds:=[]) #[n_,n_,n_,n_,n_,n_,n_,n_] (by kernel_rfl) rfl rfl ⟨(bd_ J E),(bd_ J D)⟩ (fun L=>?_);refine with_tabW bellpullref05_Images.tab1 bellpullref05_Images.bits1 (fun Z g2=>?_);generalize w.drew=Aw at J d1 a8 a9 L ⊢;refine pure_ (i:=0) (N:=some 14) (v:=?_) (a':=?_) #[y_,n_,n_,n_,n_,n_,n_,n_] rfl rfl (any_of Z.1 (by kernel_rfl)) (fun _ _ _ h=>h) (Or.inl ⟨by rfl,?_⟩) ?_ ?_;rotate_left;(· intro w';go_simp;with_reducible rfl);rotate_left;(· simp only [Act.put,s0_,s1_,s2_,i64_w,i32_w];rfl);refine pure_ (i:=1) (N:=some 15) (v:=?_) (a':=?_) #[y_,y_,n_,n_,n_,n_,n_,n_] rfl rfl (any_of Z.1 (by kernel_rfl)) (fun _ _ _ h=>h) (Or.inl ⟨by rfl,?_⟩) ?_ ?_;rotate_left;(· intro w';go_simp;with_reducible rfl);rotate_left;(· simp only [Act.put,s0_,s1_,s2_,i64_w,i32_w];rfl);refine pure_ (i:=2) (N:=some 16) (v:=?_) (a':=?_) #[y_,y_,y_,n_,n_,n_,n_,n_] rfl rfl (any_of Z.1 (by kernel_rfl)) (fun _ _ _ h=>h) (Or.inl ⟨by rfl,?_⟩) ?_ ?_;rotate_left;(· intro w';go_simp;with_reducible rfl);rotate_left;(· simp only [Act.put,s0_,s1_,s2_,i64_w,i32_w];rfl);refine take_ (i:=3) (N:=some 17) (v:=?_) (a':=?_) #[y_,y_,y_,y_,n_,n_,n_,n_] rfl rfl (take_ofW Z.1 g2.1 (by kernel_rfl)) (fun _ _ _ h=>h) (Or.inl ⟨by rfl,?_⟩) L ?_ ?_;rotate_left;(· rintro w' ⟨s0,s1⟩;go_simp;with_reducible rfl);rotate_left;(· simp only [Act.put,s0_,s1_,s2_,i64_w,i32_w];rfl);refine join_ (σ:=Value × Nat) 1 #[y_,y_,y_,y_,y_,y_,y_,n_] (fun s_=>[(18,s_.1),(5,.pointer (some ⟨s_.2,0,none⟩))]) (fun s_ w'=>(w'.cell? (a4.add ((M).toNat * 2))=some (.int .u8 ((rd_T98 O M).f0))∧w'.cell? ⟨(a4.add ((M).toNat * 2)).block,(a4.add ((M).toNat * 2)).off + 1,none⟩=some (.slice a3 ((rd_T98 O M).f1).length U))∧(Kd.R Kd.bool 4 w' w.heap.size (fun _=>True) s_.1 b5)∧(w'.heap[s_.2]?=some (.cells #[.int .u8 ((rd_T98 O M).f0),.slice a3 ((rd_T98 O M).f1).length U] 98 (0,0)))∧(w.heap.size ≤ s_.2)∧(w.heap.size ≤ s_.2)∧(Below w.heap.size w w')) ?_ ?_;rotate_left;(· intro hCont;refine two_ (i:=4) (j:=5) (Ni:=some 18) (Nj:=some 5) #[y_,y_,y_,y_,y_,n_,n_,n_] #[y_,y_,y_,y_,n_,y_,n_,n_] rfl rfl rfl rfl (two_of Z.1 (by kernel_rfl)) (by decide) (by decide) (fun K hK=>?_) (fun K hK=>?_);(· skip;refine Kd.R_make_step Kd.bool _ 4 (by rfl) (N:=18) rfl 99 _ _ rfl 729 rfl rfl Try.underlying99 (.bool false) 1 info4 rfl (by decide) (by omega) false (ok:=fun _=>True) (okp:=fun _=>True) rfl (fun _ hk=>hk) trivial (by omega) (by omega) (Below.refl _ _) (Nat.le_refl _) ?_;intro b7 T7 n2 hb hg_ b9;clear hg_ b9;(first|rw [← b8.1] at n2|(simp only [Int.reduceToNat] at n2;rw [← b8.1] at n2));have Q:=mk0 (Kd.R_lower n2 (below_size J.1));replace J:=bst J hb;clear hb n2;refine hK.out _ _ ⟨(bd_ J E),(bd_ J D)⟩ (fun L=>?_);clear hK K;refine norm_ (a':=?_) ?_ ?_;rotate_left;(· show Act.put _ (some 18) _=_;simp only [Act.put,s0_,s1_,s2_,i64_w,i32_w];rfl);refine one_ (i:=5) (N:=some 5) #[y_,y_,y_,y_,y_,y_,n_,n_] rfl rfl (one_of Z.1 (by kernel_rfl)) (by decide) (fun K hK=>?_);refine box_step ?hg (N:=5) ?hd (cs:=#[.int .u8 0,.slice none 0 0]) (t:=98) ?hr ?_;(case hd=>rfl);(case hg=>rfl);(case hr=>first|(go_simp;done)|(go_simp;rfl));intro I hg Ax c8 hb;have F:=mk0 (c8);have B:=szw hg J;have V:=szw hg J;replace Q:=rbl Q hb;replace J:=bst J hb;clear hb c8 hg;refine hK.out _ _ ⟨(bd_ J E),(bd_ J D)⟩ (fun L=>?_);clear hK K;refine norm_ (a':=?_) ?_ ?_;rotate_left;(· show Act.put _ (some 5) _=_;simp only [Act.put,s0_,s1_,s2_,i64_w,i32_w];rfl);refine one_ (i:=6) (N:=none) #[y_,y_,y_,y_,y_,y_,y_,n_] rfl rfl (one_of Z.1 (by kernel_rfl)) (by decide) (fun K hK=>?_);have M9:=q0_ F;have H9:=blk_frozen F.1 0;have N0:=q1_ F;have I0:=blk_frozen F.1 1;refine skip_ (w1:=?_) (by rfl) rfl ?_ ?_;rotate_left;(· go_simp;rfl);refine hK.out _ _ ⟨((cell_far (p:=⟨I,_,none⟩) (by first|exact (by first|exact nb_ E B.1|exact nc_ E B.1)|(rw [add_block];exact (by first|exact nb_ E B.1|exact nc_ E B.1))|(show (Addr.add _ _).block ≠ _;rw [add_block];exact (by first|exact nb_ E B.1|exact nc_ E B.1))|(dsimp only;exact (by first|exact nb_ E B.1|exact nc_ E B.1))) _).trans (((cell_far (p:=⟨I,_,none⟩) (by first|exact (by first|exact nb_ E B.1|exact nc_ E B.1)|(rw [add_block];exact (by first|exact nb_ E B.1|exact nc_ E B.1))|(show (Addr.add _ _).block ≠ _;rw [add_block];exact (by first|exact nb_ E B.1|exact nc_ E B.1))|(dsimp only;exact (by first|exact nb_ E B.1|exact nc_ E B.1))) _).trans (L.1)))),((cell_far (p:=⟨I,_,none⟩) (by first|exact (by first|exact nb_ D B.1|exact nc_ D B.1)|(rw [add_block];exact (by first|exact nb_ D B.1|exact nc_ D B.1))|(show (Addr.add _ _).block ≠ _;rw [add_block];exact (by first|exact nb_ D B.1|exact nc_ D B.1))|(dsimp only;exact (by first|exact nb_ D B.1|exact nc_ D B.1))) _).trans (((cell_far (p:=⟨I,_,none⟩) (by first|exact (by first|exact nb_ D B.1|exact nc_ D B.1)|(rw [add_block];exact (by first|exact nb_ D B.1|exact nc_ D B.1))|(show (Addr.add _ _).block ≠ _;rw [add_block];exact (by first|exact nb_ D B.1|exact nc_ D B.1))|(dsimp only;exact (by first|exact nb_ D B.1|exact nc_ D B.1))) _).trans (L.2))))⟩ (fun L=>?_);clear hK K;exact norm_ (by simp only [putAll,Act.put,s0_,s1_,s2_]) (hCont (b7,I) _ ⟨L,(by (with_reducible repeat (first|apply Kd.R_alloc|apply Kd.R_drewN|apply Kd.R_drew));exact Kd.R_mono (Kd.R_far (p:=⟨I,1,none⟩) (Kd.R_far (p:=⟨I,0,none⟩) (Kd.R_types Q.1 F.1 (by decide)) (fun _ hk=>hk.2) (.int .u8 ((rd_T98 O M).f0))) (fun _ hk=>hk.2) (.slice a3 ((rd_T98 O M).f1).length U)) (fun _ hk=>trivial)),(by refine blk_put (cs:=#[.int .u8 ((rd_T98 O M).f0),.slice none 0 0]) ?_ 1 _ rfl;refine blk_put (cs:=#[.int .u8 0,.slice none 0 0]) ?_ 0 _ rfl;exact F.1),B.1,V.1,(by repeat (with_reducible first|exact J.1|refine below_set ?_ V.1))⟩));· skip;refine box_step ?hg (N:=5) ?hd (cs:=#[.int .u8 0,.slice none 0 0]) (t:=98) ?hr ?_;(case hd=>rfl);(case hg=>rfl);(case hr=>first|(go_simp;done)|(go_simp;rfl));intro I hg T7 c8 hb;have F:=mk0 (c8);have B:=szw hg J;have V:=szw hg J;replace J:=bst J hb;clear hb c8 hg;refine hK.out _ _ ⟨(bd_ J E),(bd_ J D)⟩ (fun L=>?_);clear hK K;refine norm_ (a':=?_) ?_ ?_;rotate_left;(· show Act.put _ (some 5) _=_;simp only [Act.put,s0_,s1_,s2_,i64_w,i32_w];rfl);refine two_ (i:=4) (j:=6) (Ni:=some 18) (Nj:=none) #[y_,y_,y_,y_,y_,y_,n_,n_] #[y_,y_,y_,y_,n_,y_,y_,n_] rfl rfl rfl rfl (two_of Z.1 (by kernel_rfl)) (by decide) (by decide) (fun K hK=>?_) (fun K hK=>?_);(· skip;refine Kd.R_make_step Kd.bool _ 4 (by rfl) (N:=18) rfl 99 _ _ rfl 729 rfl rfl Try.underlying99 (.bool false) 1 info4 rfl (by decide) (by omega) false (ok:=fun _=>True) (okp:=fun _=>True) rfl (fun _ hk=>hk) trivial (by omega) (by omega) (Below.refl _ _) (Nat.le_refl _) ?_;intro b7 Ay n3 hb hg_ b9;clear hg_ b9;(first|rw [← b8.1] at n3|(simp only [Int.reduceToNat] at n3;rw [← b8.1] at n3));have Q:=mk0 (Kd.R_lower n3 (below_size J.1));replace F:=bkb F hb;replace J:=bst J hb;clear hb n3;refine hK.out _ _ ⟨(bd_ J E),(bd_ J D)⟩ (fun L=>?_);clear hK K;refine norm_ (a':=?_) ?_ ?_;rotate_left;(· show Act.put _ (some 18) _=_;simp only [Act.put,s0_,s1_,s2_,i64_w,i32_w];rfl);refine one_ (i:=6) (N:=none) #[y_,y_,y_,y_,y_,y_,y_,n_] rfl rfl (one_of Z.1 (by kernel_rfl)) (by decide) (fun K hK=>?_);have M9:=q0_ F;have H9:=blk_frozen F.1 0;have N0:=q1_ F;have I0:=blk_frozen F.1 1;refine skip_ (w1:=?_) (by rfl) rfl ?_ ?_;rotate_left;(· go_simp;rfl);refine hK.out _ _ ⟨((cell_far (p:=⟨I,_,none⟩) (by first|exact (by first|exact nb_ E B.1|exact nc_ E B.1)|(rw [add_block];exact (by first|exact nb_ E B.1|exact nc_ E B.1))|(show (Addr.add _ _).block ≠ _;rw [add_block];exact (by first|exact nb_ E B.1|exact nc_ E B.1))|(dsimp only;exact (by first|exact nb_ E B.1|exact nc_ E B.1))) _).trans (((cell_far (p:=⟨I,_,none⟩) (by first|exact (by first|exact nb_ E B.1|exact nc_ E B.1)|(rw [add_block];exact (by first|exact nb_ E B.1|exact nc_ E B.1))|(show (Addr.add _ _).block ≠ _;rw [add_block];exact (by first|exact nb_ E B.1|exact nc_ E B.1))|(dsimp only;exact (by first|exact nb_ E B.1|exact nc_ E B.1))) _).trans (L.1)))),((cell_far (p:=⟨I,_,none⟩) (by first|exact (by first|exact nb_ D B.1|exact nc_ D B.1)|(rw [add_block];exact (by first|exact nb_ D B.1|exact nc_ D B.1))|(show (Addr.add _ _).block ≠ _;rw [add_block];exact (by first|exact nb_ D B.1|exact nc_ D B.1))|(dsimp only;exact (by first|exact nb_ D B.1|exact nc_ D B.1))) _).trans (((cell_far (p:=⟨I,_,none⟩) (by first|exact (by first|exact nb_ D B.1|exact nc_ D B.1)|(rw [add_block];exact (by first|exact nb_ D B.1|exact nc_ D B.1))|(show (Addr.add _ _).block ≠ _;rw [add_block];exact (by first|exact nb_ D B.1|exact nc_ D B.1))|(dsimp only;exact (by first|exact nb_ D B.1|exact nc_ D B.1))) _).trans (L.2))))⟩ (fun L=>?_);clear hK K;exact norm_ (by simp only [putAll,Act.put,s0_,s1_,s2_]) (hCont (b7,I) _ ⟨L,(by (with_reducible repeat (first|apply Kd.R_alloc|apply Kd.R_drewN|apply Kd.R_drew));exact Kd.R_mono (Kd.R_far (p:=⟨I,1,none⟩) (Kd.R_far (p:=⟨I,0,none⟩) (Kd.R_types Q.1 F.1 (by decide)) (fun _ hk=>hk.2) (.int .u8 ((rd_T98 O M).f0))) (fun _ hk=>hk.2) (.slice a3 ((rd_T98 O M).f1).length U)) (fun _ hk=>trivial)),(by refine blk_put (cs:=#[.int .u8 ((rd_T98 O M).f0),.slice none 0 0]) ?_ 1 _ rfl;refine blk_put (cs:=#[.int .u8 0,.slice none 0 0]) ?_ 0 _ rfl;exact F.1),B.1,V.1,(by repeat (with_reducible first|exact J.1|refine below_set ?_ V.1))⟩));· skip;have Z1:=q0_ F;have X0:=blk_frozen F.1 0;have Z2:=q1_ F;have X1:=blk_frozen F.1 1;refine skip_ (w1:=?_) (by rfl) rfl ?_ ?_;rotate_left;(· go_simp;rfl);refine hK.out _ _ ⟨((cell_far (p:=⟨I,_,none⟩) (by first|exact (by first|exact nb_ E B.1|exact nc_ E B.1)|(rw [add_block];exact (by first|exact nb_ E B.1|exact nc_ E B.1))|(show (Addr.add _ _).block ≠ _;rw [add_block];exact (by first|exact nb_ E B.1|exact nc_ E B.1))|(dsimp only;exact (by first|exact nb_ E B.1|exact nc_ E B.1))) _).trans (((cell_far (p:=⟨I,_,none⟩) (by first|exact (by first|exact nb_ E B.1|exact nc_ E B.1)|(rw [add_block];exact (by first|exact nb_ E B.1|exact nc_ E B.1))|(show (Addr.add _ _).block ≠ _;rw [add_block];exact (by first|exact nb_ E B.1|exact nc_ E B.1))|(dsimp only;exact (by first|exact nb_ E B.1|exact nc_ E B.1))) _).trans (L.1)))),((cell_far (p:=⟨I,_,none⟩) (by first|exact (by first|exact nb_ D B.1|exact nc_ D B.1)|(rw [add_block];exact (by first|exact nb_ D B.1|exact nc_ D B.1))|(show (Addr.add _ _).block ≠ _;rw [add_block];exact (by first|exact nb_ D B.1|exact nc_ D B.1))|(dsimp only;exact (by first|exact nb_ D B.1|exact nc_ D B.1))) _).trans (((cell_far (p:=⟨I,_,none⟩) (by first|exact (by first|exact nb_ D B.1|exact nc_ D B.1)|(rw [add_block];exact (by first|exact nb_ D B.1|exact nc_ D B.1))|(show (Addr.add _ _).block ≠ _;rw [add_block];exact (by first|exact nb_ D B.1|exact nc_ D B.1))|(dsimp only;exact (by first|exact nb_ D B.1|exact nc_ D B.1))) _).trans (L.2))))⟩ (fun L=>?_);clear hK K;refine one_ (i:=4) (N:=some 18) #[y_,y_,y_,y_,y_,y_,y_,n_] rfl rfl (one_of Z.1 (by kernel_rfl)) (by decide) (fun K hK=>?_);refine Kd.R_make_step Kd.bool _ 4 (by rfl) (N:=18) rfl 99 _ _ rfl 729 rfl rfl Try.underlying99 (.bool false) 1 info4 rfl (by decide) (by omega) false (ok:=fun _=>True) (okp:=fun _=>True) rfl (fun _ hk=>hk) trivial (by omega) (by omega) (Below.refl _ _) (Nat.le_refl _) ?_;intro b7 Az n4 hb hg_ b9;clear hg_ b9;(first|rw [← b8.1] at n4|(simp only [Int.reduceToNat] at n4;rw [← b8.1] at n4));have Q:=mk0 (Kd.R_lower n4 (below_size (by repeat (with_reducible first|exact J.1|refine below_set ?_ V.1))));replace F:=mk0 (blk_below (g:=I) (o:=.cells #[.int .u8 ((rd_T98 O M).f0),.slice a3 ((rd_T98 O M).f1).length U] 98 (0,0)) (by refine blk_put (cs:=#[.int .u8 ((rd_T98 O M).f0),.slice none 0 0]) ?_ 1 _ rfl;refine blk_put (cs:=#[.int .u8 0,.slice none 0 0]) ?_ 0 _ rfl;exact F.1) hb);replace J:=mk0 (below_step (by repeat (with_reducible first|exact J.1|refine below_set ?_ V.1)) hb);clear hb n4;refine hK.out _ _ ⟨(bd_ J E),(bd_ J D)⟩ (fun L=>?_);clear hK K;refine norm_ (a':=?_) ?_ ?_;rotate_left;(· show Act.put _ (some 18) _=_;simp only [Act.put,s0_,s1_,s2_,i64_w,i32_w];rfl);exact norm_ (by simp only [putAll,Act.put,s0_,s1_,s2_]) (hCont (b7,I) _ ⟨L,Q.1,F.1,B.1,V.1,J.1⟩));clear J;rintro ⟨b7,I⟩ u1 f9;(try dsimp only at f9);replace f9:=h_ (m4_ l_) f9;obtain ⟨n5,Q,F,B,V,J⟩:=f9;have L:u1.cell? (a4.add ((M).toNat * 2))=some (.int .u8 ((rd_T98 O M).f0))∧u1.cell? ⟨(a4.add ((M).toNat * 2)).block,(a4.add ((M).toNat * 2)).off + 1,none⟩=some (.slice a3 ((rd_T98 O M).f1).length U):=n5;refine norm_ (a':=?_) ?_ ?_;rotate_left;(· simp only [putAll,Act.put,s0_,s1_,s2_];rfl);refine pure_ (i:=7) (N:=some 6) (v:=?_) (a':=?_) #[y_,y_,y_,y_,y_,y_,y_,y_] rfl rfl (any_of Z.1 (by kernel_rfl)) (fun _ _ _ h=>h) (Or.inl ⟨by rfl,?_⟩) ?_ ?_;rotate_left;(· intro w';go_simp;with_reducible rfl);rotate_left;(· simp only [Act.put,s0_,s1_,s2_,i64_w,i32_w];rfl);(refine done_ (done_of Z.1 (by kernel_rfl)) ?_;have C6:u1.cell? ⟨I,0,none⟩=some (.int .u8 ((rd_T98 O M).f0)):=q0_ F;have C7:u1.cell? ⟨I,1,none⟩=some (.slice a3 ((rd_T98 O M).f1).length U):=q1_ F;have C8:=blk_frozen F.1 0;have C9:=blk_frozen F.1 1;try go_wp2);replace Q:=rdr Q;replace F:=bdr F;replace J:=hdr J;have r0:0 ≤ (0:Int):=(by omega);have r1:0 < (((rd_T98 O M).f1).length:Int):=of_decide_eq_true (by first|(with_reducible assumption)|assumption);obtain ⟨g5,N1,f7⟩:=Kd.at_int d1.1 0 r0 r1;have e4:=f7;(try rw [show ((0:Int)).toNat=0 from rfl] at e4);(try rw [show 0 * 1=0 from rfl] at e4);(try rw [Addr.add_zero'] at e4);cases N1;have X2:(0 < ((rd_T98 O M).f1).length)=True:=eq_true (by omega);(try rw [show ((0:Int)).toNat=0 from rfl] at f7);(try rw [Addr.add_zero'] at f7);replace f7:=bd_ J f7;replace r0:=eq_true r0;replace r1:=eq_true r1;have r2:0 ≤ (1:Int):=(by omega);have r3:1 < (((rd_T98 O M).f1).length:Int):=of_decide_eq_true (by first|(with_reducible assumption)|assumption);obtain ⟨I1,N2,f8⟩:=Kd.at_int d1.1 1 r2 r3;have e5:=f8;(try rw [show ((1:Int)).toNat=1 from rfl] at e5);(try rw [show 1 * 1=1 from rfl] at e5);(try simp only [Nat.reduceMul,Nat.reduceEqDiff,Go.Addr.add,↓reduceIte] at e5);obtain rfl:g5=I1:=(by injection N2);(try simp only [show (1:Int).toNat=1 from rfl,Nat.reduceMul,Nat.reduceEqDiff,Go.Addr.add,↓reduceIte] at f8);have X3:(1 < ((rd_T98 O M).f1).length)=True:=eq_true (by omega);(try rw [show ((1:Int)).toNat=1 from rfl] at f8);replace f8:=bd_ J f8;replace r2:=eq_true r2;replace r3:=eq_true r3;refine start_ (n:=14) (S:=fun w'=>w'.cell? ⟨I,0,none⟩=some (.int .u8 ((rd_T98 O M).f0))∧w'.cell? ⟨I,1,none⟩=some (.slice (some g5) ((rd_T98 O M).f1).length U)∧w'.cell? g5=some (.int .i64 (rd ((rd_T98 O M).f1) 0))∧w'.cell? ⟨g5.block,g5.off + 1,none⟩=some (.int .i64 (rd ((rd_T98 O M).f1) 1))) (ds:=[]) #[n_,n_,n_,n_,n_,n_,n_,n_,n_,n_,n_,n_,n_,n_] (by kernel_rfl) rfl rfl ⟨q0_ F,q1_ F,(bd_ J e4),(bd_ J e5)⟩ (fun L=>?_);refine with_tabW bellpullref05_Images.tab5 bellpullref05_Images.bits5 (fun Z g2=>?_);generalize u1.drew=Ba at Q F J f7 f8 L ⊢;refine pure_ (i:=0) (N:=some 29) (v:=?_) (a':=?_) #[y_,n_,n_,n_,n_,n_,n_,n_,n_,n_,n_,n_,n_,n_] rfl rfl (any_of Z.1 (by kernel_rfl)) (fun _ _ _ h=>h) (Or.inl ⟨by rfl,?_⟩) ?_ ?_;rotate_left;(· intro w';go_simp;with_reducible rfl);rotate_left;(· simp only [Act.put,s0_,s1_,s2_,i64_w,i32_w];rfl);refine pure_ (i:=1) (N:=some 30) (v:=?_) (a':=?_) #[y_,y_,n_,n_,n_,n_,n_,n_,n_,n_,n_,n_,n_,n_] rfl rfl (any_of Z.1 (by kernel_rfl)) (fun _ _ _ h=>h) (Or.inl ⟨by rfl,?_⟩) ?_ ?_;rotate_left;(· intro w';go_simp;with_reducible rfl);rotate_left;(· simp only [Act.put,s0_,s1_,s2_,i64_w,i32_w];rfl);refine pure_ (i:=6) (N:=some 35) (v:=?_) (a':=?_) #[y_,y_,n_,n_,n_,n_,y_,n_,n_,n_,n_,n_,n_,n_] rfl rfl (any_of Z.1 (by kernel_rfl)) (fun _ _ _ h=>h) (Or.inl ⟨by rfl,?_⟩) ?_ ?_;rotate_left;(· intro w';go_simp;with_reducible rfl);rotate_left;(· simp only [Act.put,s0_,s1_,s2_,i64_w,i32_w];rfl);refine pure_ (i:=7) (N:=some 36) (v:=?_) (a':=?_) #[y_,y_,n_,n_,n_,n_,y_,y_,n_,n_,n_,n_,n_,n_] rfl rfl (any_of Z.1 (by kernel_rfl)) (fun _ _ _ h=>h) (Or.inl ⟨by rfl,?_⟩) ?_ ?_;rotate_left;(· intro w';go_simp;with_reducible rfl);rotate_left;(· simp only [Act.put,s0_,s1_,s2_,i64_w,i32_w];rfl);refine take_ (i:=2) (N:=some 31) (v:=?_) (a':=?_) #[y_,y_,y_,n_,n_,n_,y_,y_,n_,n_,n_,n_,n_,n_] rfl rfl (take_ofW Z.1 g2.1 (by kernel_rfl)) (fun _ _ _ h=>h) (Or.inl ⟨by rfl,?_⟩) L ?_ ?_;rotate_left;(· rintro w' ⟨s0,s1,s2,s3⟩;go_simp;with_reducible rfl);rotate_left;(· simp only [Act.put,s0_,s1_,s2_,i64_w,i32_w];rfl);refine pure_ (i:=3) (N:=some 32) (v:=?_) (a':=?_) #[y_,y_,y_,y_,n_,n_,y_,y_,n_,n_,n_,n_,n_,n_] rfl rfl (any_of Z.1 (by kernel_rfl)) (fun _ _ _ h=>h) (Or.inl ⟨by rfl,?_⟩) ?_ ?_;rotate_left;(· intro w';go_simp;with_reducible rfl);rotate_left;(· simp only [Act.put,s0_,s1_,s2_,i64_w,i32_w];rfl);refine take_ (i:=4) (N:=some 33) (v:=?_) (a':=?_) #[y_,y_,y_,y_,y_,n_,y_,y_,n_,n_,n_,n_,n_,n_] rfl rfl (take_ofW Z.1 g2.1 (by kernel_rfl)) (fun _ _ _ h=>h) (Or.inl ⟨by rfl,?_⟩) L ?_ ?_;rotate_left;(· rintro w' ⟨s0,s1,s2,s3⟩;go_simp;with_reducible rfl);rotate_left;(· simp only [Act.put,s0_,s1_,s2_,i64_w,i32_w];rfl);refine take_ (i:=8) (N:=some 37) (v:=?_) (a':=?_) #[y_,y_,y_,y_,y_,n_,y_,y_,y_,n_,n_,n_,n_,n_] rfl rfl (take_ofW Z.1 g2.1 (by kernel_rfl)) (fun _ _ _ h=>h) (Or.inl ⟨by rfl,?_⟩) L ?_ ?_;rotate_left;(· rintro w' ⟨s0,s1,s2,s3⟩;go_simp;with_reducible rfl);rotate_left;(· simp only [Act.put,s0_,s1_,s2_,i64_w,i32_w];rfl);refine pure_ (i:=9) (N:=some 38) (v:=?_) (a':=?_) #[y_,y_,y_,y_,y_,n_,y_,y_,y_,y_,n_,n_,n_,n_] rfl rfl (any_of Z.1 (by kernel_rfl)) (fun _ _ _ h=>h) (Or.inl ⟨by rfl,?_⟩) ?_ ?_;rotate_left;(· intro w';go_simp;with_reducible rfl);rotate_left;(· simp only [Act.put,s0_,s1_,s2_,i64_w,i32_w];rfl);refine take_ (i:=10) (N:=some 39) (v:=?_) (a':=?_) #[y_,y_,y_,y_,y_,n_,y_,y_,y_,y_,y_,n_,n_,n_] rfl rfl (take_ofW Z.1 g2.1 (by kernel_rfl)) (fun _ _ _ h=>h) (Or.inl ⟨by rfl,?_⟩) L ?_ ?_;rotate_left;(· rintro w' ⟨s0,s1,s2,s3⟩;go_simp;with_reducible rfl);rotate_left;(· simp only [Act.put,s0_,s1_,s2_,i64_w,i32_w];rfl);(refine one_ (i:=5) (N:=some 34) #[y_,y_,y_,y_,y_,y_,y_,y_,y_,y_,y_,n_,n_,n_] rfl rfl (one_of Z.1 (by kernel_rfl)) (by decide) (fun K hK=>?_);refine goes_ Try.func62 (by kernel_rfl) rfl #[.slice (some a4) O.length c0,.int .i64 (rd ((rd_T98 O M).f1) 0)] (by rfl) rfl rfl (by (try simp only [m0_,m1_,m2_]);first|done|rfl|(simp only [l0_,l1_];rfl)) ?_;with_reducible refine (ih k (by omega) _ _ O (rd ((rd_T98 O M).f1) 0) d0 _ ?side1 ?side2 A8.1).mono ?_);(case side1=>repeat (first|exact (Kd.C_below j2.1 J.1)|(with_reducible refine Kd.C_alloc ?_ _)|(with_reducible refine Kd.C_drewN ?_ _)|(with_reducible refine Kd.C_drew ?_)));(case side2=>exact u0.1);rintro e Bb ⟨u7,rfl,c1,hb⟩;refine ⟨_,rfl,?_⟩;have m6:=mk0 (Kd.R_lower (Kd.R_new' c1 (Kd.R_lt Q.1)) (below_size J.1));replace Q:=mk0 (Kd.R_elder' Q.1 (Kd.R_base c1) hb);replace F:=bkb F hb;replace J:=bst J hb;(try clear hb);(try clear c1);refine hK.out _ _ ⟨q0_ F,q1_ F,(bd_ J e4),(bd_ J e5)⟩ (fun L=>?_);clear hK K;refine norm_ (a':=?_) ?_ ?_;rotate_left;(· show Act.put _ (some 34) _=_;simp only [Act.put,s0_,s1_,s2_,i64_w,i32_w];rfl);(refine one_ (i:=11) (N:=some 40) #[y_,y_,y_,y_,y_,y_,y_,y_,y_,y_,y_,y_,n_,n_] rfl rfl (one_of Z.1 (by kernel_rfl)) (by decide) (fun K hK=>?_);refine goes_ Try.func62 (by kernel_rfl) rfl #[.slice (some a4) O.length c0,.int .i64 (rd ((rd_T98 O M).f1) 1)] (by rfl) rfl rfl (by (try simp only [m0_,m1_,m2_]);first|done|rfl|(simp only [l0_,l1_];rfl)) ?_;with_reducible refine (ih k (by omega) _ _ O (rd ((rd_T98 O M).f1) 1) c2 _ ?side1 ?side2 T6.1).mono ?_);(case side1=>repeat (first|exact (Kd.C_below j2.1 J.1)|(with_reducible refine Kd.C_alloc ?_ _)|(with_reducible refine Kd.C_drewN ?_ _)|(with_reducible refine Kd.C_drew ?_)));(case side2=>exact u0.1);rintro e Bc ⟨n6,rfl,c1,hb⟩;refine ⟨_,rfl,?_⟩;have I2:=mk0 (Kd.R_lower (Kd.R_new' (Kd.R_new' c1 (Kd.R_lt Q.1)) (Kd.R_lt m6.1)) (below_size J.1));replace Q:=mk0 (Kd.R_elder' Q.1 (Kd.R_base c1) hb);replace m6:=mk0 (Kd.R_elder' m6.1 (Kd.R_base c1) hb);replace F:=bkb F hb;replace J:=bst J hb;(try clear hb);(try clear c1);refine hK.out _ _ ⟨q0_ F,q1_ F,(bd_ J e4),(bd_ J e5)⟩ (fun L=>?_);clear hK K;refine norm_ (a':=?_) ?_ ?_;rotate_left;(· show Act.put _ (some 40) _=_;simp only [Act.put,s0_,s1_,s2_,i64_w,i32_w];rfl);refine pure_ (i:=12) (N:=some 7) (v:=?_) (a':=?_) #[y_,y_,y_,y_,y_,y_,y_,y_,y_,y_,y_,y_,y_,n_] rfl rfl (any_of Z.1 (by kernel_rfl)) (fun _ _ _ h=>h) (Or.inl ⟨by rfl,?_⟩) ?_ ?_;rotate_left;(· intro w';go_simp;with_reducible rfl);rotate_left;(· simp only [Act.put,s0_,s1_,s2_,i64_w,i32_w];rfl);refine pure_ (i:=13) (N:=some 8) (v:=?_) (a':=?_) #[y_,y_,y_,y_,y_,y_,y_,y_,y_,y_,y_,y_,y_,y_] rfl rfl (any_of Z.1 (by kernel_rfl)) (fun _ _ _ h=>h) (Or.inl ⟨by rfl,?_⟩) ?_ ?_;rotate_left;(· intro w';go_simp;with_reducible rfl);rotate_left;(· simp only [Act.put,s0_,s1_,s2_,i64_w,i32_w];rfl);(refine done_ (done_of Z.1 (by kernel_rfl)) ?_;try go_wp2);go_loopg [9] k (fun kq v9 w'=>∃ (b3:List Bool) (a6:Int),v9=.int .i64 a6∧Aside0 (bellpullref05_Images.l0 kq b3 d0 c2 a6=some r)∧Aside0 (kq ≤ k)∧Aside0 (Kd.R Kd.bool 4 w' w.heap.size (fun k_=>some k_ ≠ (u7:Value).ownBlock∧some k_ ≠ (n6:Value).ownBlock) b7 b3)∧Aside0 (Kd.R Kd.bool 4 w' w.heap.size (fun k_=>some k_ ≠ (b7:Value).ownBlock∧some k_ ≠ (n6:Value).ownBlock) u7 d0)∧Aside0 (Kd.R Kd.bool 4 w' w.heap.size (fun k_=>some k_ ≠ (b7:Value).ownBlock∧some k_ ≠ (u7:Value).ownBlock) n6 c2)∧Aside0 (w'.heap[I]?=some (.cells #[.int .u8 ((rd_T98 O M).f0),(.slice (some g5) ((rd_T98 O M).f1).length U)] 98 (0,0)))∧Aside0 (Below w.heap.size w w'));case atStart=>exact ⟨(b5),(0),(by first|rfl|(simp;done)|(simp [*];done)),H',⟨Nat.le_refl _⟩,⟨by (with_reducible repeat (first|apply Kd.R_alloc|apply Kd.R_drewN|apply Kd.R_drew));exact Kd.R_mono Q.1 (fun _ hk=>⟨hk.1.2,hk.2⟩)⟩,⟨by (with_reducible repeat (first|apply Kd.R_alloc|apply Kd.R_drewN|apply Kd.R_drew));exact Kd.R_mono m6.1 (fun _ hk=>⟨hk.1.2,hk.2⟩)⟩,⟨by (with_reducible repeat (first|apply Kd.R_alloc|apply Kd.R_drewN|apply Kd.R_drew));exact Kd.R_mono I2.1 (fun _ hk=>⟨hk.1.2,hk.2⟩)⟩,⟨by exact F.1⟩,⟨by repeat (first|(with_reducible first|exact J.1|apply below_alloc|apply pw_below_drewN|apply below_drew1|refine below_set ?_ V.1)|exact J.1)⟩⟩
       case round =>
        (clear H';try clear p2);(try clear c3);(try clear c3b0);(try clear c4);(try clear c4b0);(try clear c5);(try clear c5b0);(try clear c5b1);(try clear p5);(try clear q5);(try clear hx5);(try clear qi5);(try clear c6);(try clear c6b0);(try clear c6b1);(try clear c7);(try clear c7b0);(try clear c7b1);(try clear c9);(try clear c9b0);(try clear c9b1);(try clear C6);(try clear C7);(try clear C8);(try clear C9);(try clear a8);(try clear a9);(try clear f7);(try clear f8);(try clear e2);(try clear r0);(try clear r2);(try clear e3);(try clear r1);try clear r3
        obtain ⟨b3,a6,rfl,HA,g0,Y,g8,h2,F,J⟩:=hrel;cases gk with
        | zero=>exact absurd HA.1 (by simp [bellpullref05_Images.l0])
        | succ k1 =>have H:=HA.1;clear HA;simp only [bellpullref05_Images.l0] at H;by_cases c22:a6 < (b3.length:Int);(· rw [if_pos c22] at H;have c22b0:decide (a6 < (b3.length:Int))=true:=decide_eq_true c22;clear c22;by_cases c23:0 ≤ a6;(· rw [if_pos c23] at H;have c23b0:decide (0 ≤ a6)=true:=decide_eq_true c23;clear c23;by_cases c24:a6 < (d0.length:Int);(· rw [if_pos c24] at H;have c24b0:decide (a6 < (d0.length:Int))=true:=decide_eq_true c24;clear c24;obtain ⟨D5,r4⟩:∃ b_:Bool,b_=(rdOf false d0 a6):=⟨_,rfl⟩;(replace H:(if D5=true then (bellpullref05_Images.l0 k1 (b3.set (a6:Int).toNat true) d0 c2 (wrap64 (a6 + 1))) else (if a6 < (c2.length:Int) then (bellpullref05_Images.l0 k1 (b3.set (a6:Int).toNat (rdOf false c2 a6)) d0 c2 (wrap64 (a6 + 1))) else (none)))=some r:=by rw [← r4] at H;exact H);have r5:=mk0 r4;clear r4;by_cases A2:D5=true;(· (subst A2;have H1:(bellpullref05_Images.l0 k1 (b3.set (a6:Int).toNat true) d0 c2 (wrap64 (a6 + 1)))=some r:=by rw [if_pos rfl] at H;exact H);clear H;have H:=H1;clear H1;obtain ⟨u9,j4⟩:∃ y_:List Bool,y_=(b3.set (a6:Int).toNat true):=⟨_,rfl⟩;(replace H:(bellpullref05_Images.l0 k1 u9 d0 c2 (wrap64 (a6 + 1)))=some r:=by first|(rw [j4];with_reducible exact H)|(have b6:=(Option.bind_some _ _).symm.trans H;rw [j4];with_reducible exact b6)|(have b6:=(Option.bind_some _ _).symm.trans H;with_reducible exact b6)|with_reducible exact H|(rw [j4];exact H)|exact H);have I3:=mk0 j4;clear j4;have H':=mk0 H;clear H;obtain ⟨Z4,n7,N3⟩:=Kd.R_slice Y.1;subst N3;obtain ⟨Z5,D6,N4⟩:=Kd.R_slice g8.1;subst N4;have h8:0 ≤ (a6:Int):=of_decide_eq_true (by first|(with_reducible assumption)|assumption);have h9:a6 < (d0.length:Int):=of_decide_eq_true (by first|(with_reducible assumption)|assumption);obtain ⟨j5,v0,m5⟩:=Kd.at_bool (Kd.R_reads' g8.1).2.2 a6 h8 h9;(try rw [← r5.1] at m5);cases v0;replace h8:=eq_true h8;replace h9:=eq_true h9;have D7:0 ≤ (a6:Int):=of_decide_eq_true (by first|(with_reducible assumption)|assumption);have D8:(a6:Int) < ((b3.length:Int):Int):=of_decide_eq_true (by first|(with_reducible assumption)|assumption);obtain ⟨i0,Z6,D9,E0,N5,Z7,E1⟩:=Kd.R_form Y.1 (by omega);(first|cases D9|(injection D9 with ea_ en_ ec_;(first|subst ea_|(injection ea_ with ea_;subst ea_));subst ec_;clear en_));have N6:=mk0 E0;have Z8:=mk0 E1;clear E0 N5 E1;obtain ⟨T8,T9⟩:=Kd.R_celln false Y.1 (a6:Int) D7 D8;replace D7:=eq_true D7;replace D8:=eq_true D8;have v2:=Kd.R_putg Y.1 (a6:Int) true;go_wp2_with (first|((with_reducible refine gate_store (t:=4) (p:=59) rfl ?_);refine store_event (t:=4) (p:=59) (v:=?vo_w31) (w1:=(wr.setCell ⟨i0,(a6:Int).toNat,none⟩ (.bool true))) ?hg ?ho ?hn ?hr ?_;(case ho=>rfl);(case hg=>rfl);(case hn=>rfl);(case hr=>first|(go_simp;done)|(go_simp;rfl));intro E2 hw;have hg:wr.grownBy E2 (some i0):=(by rw [hw];exact v2.2);have hp_:Kd.R Kd.bool 4 E2 w.heap.size (fun k_=>some k_ ≠ (.slice (some j5) d0.length D6:Value).ownBlock∧some k_ ≠ (n6:Value).ownBlock) (.slice (some ⟨i0,0,none⟩) b3.length n7) u9:=(by rw [hw,I3.1];exact v2.1);clear v2;replace g8:=mk0 (Kd.R_after (v:=(.slice (some ⟨i0,0,none⟩) b3.length n7)) (v1:=(.slice (some ⟨i0,0,none⟩) b3.length n7)) (ok:=(fun k_=>some k_ ≠ (n6:Value).ownBlock)) (by (with_reducible repeat (first|apply Kd.R_alloc|apply Kd.R_drewN|apply Kd.R_drew));exact Kd.R_mono g8.1 (fun _ hk=>⟨hk.2,hk.1⟩)) hg (.inl rfl));replace h2:=mk0 (Kd.R_after (v:=(.slice (some ⟨i0,0,none⟩) b3.length n7)) (v1:=(.slice (some ⟨i0,0,none⟩) b3.length n7)) (ok:=(fun k_=>some k_ ≠ (.slice (some j5) d0.length D6:Value).ownBlock)) (by (with_reducible repeat (first|apply Kd.R_alloc|apply Kd.R_drewN|apply Kd.R_drew));exact Kd.R_mono h2.1 (fun _ hk=>⟨hk.2,hk.1⟩)) hg (.inl rfl));replace F:=mk0 (blk_grown (g:=I) (o:=.cells #[.int .u8 ((rd_T98 O M).f0),.slice (some g5) ((rd_T98 O M).f1).length U] 98 (0,0)) F.1 hg (Kd.R_ne Y.1 F.1 (by decide)));replace Y:=mk0 (hp_);replace J:=mk0 ((by rw [hw];exact below_set (J.1) N6.1:Below w.heap.size w E2));clear hg hw hp_));go_roundg k1;(case measure=>have:=g0.1;omega);case rel=>exact ⟨(u9),(wrap64 (a6 + 1)),(by first|rfl|(simp;done)|(simp [*];done)),H',⟨by have:=g0.1;omega⟩,⟨by (with_reducible repeat (first|apply Kd.R_alloc|apply Kd.R_drewN|apply Kd.R_drew));exact Y.1⟩,⟨by (with_reducible repeat (first|apply Kd.R_alloc|apply Kd.R_drewN|apply Kd.R_drew));exact Kd.R_mono g8.1 (fun _ hk=>⟨hk.2,hk.1⟩)⟩,⟨by (with_reducible repeat (first|apply Kd.R_alloc|apply Kd.R_drewN|apply Kd.R_drew));exact Kd.R_mono h2.1 (fun _ hk=>⟨hk.2,hk.1⟩)⟩,⟨by exact F.1⟩,⟨by repeat (first|(with_reducible first|exact J.1|apply below_alloc|apply pw_below_drewN|apply below_drew1|refine below_set ?_ V.1)|exact J.1)⟩⟩);· (replace A2:=Bool.eq_false_iff.mpr A2;subst A2;have H1:(if a6 < (c2.length:Int) then (bellpullref05_Images.l0 k1 (b3.set (a6:Int).toNat (rdOf false c2 a6)) d0 c2 (wrap64 (a6 + 1))) else (none))=some r:=by rw [if_neg (show ¬ (false=true) by decide)] at H;exact H);clear H;have H:=H1;clear H1;by_cases c32:a6 < (c2.length:Int);(· rw [if_pos c32] at H;have c32b0:decide (a6 < (c2.length:Int))=true:=decide_eq_true c32;clear c32;obtain ⟨v3,j6⟩:∃ y_:List Bool,y_=(b3.set (a6:Int).toNat (rdOf false c2 a6)):=⟨_,rfl⟩;(replace H:(bellpullref05_Images.l0 k1 v3 d0 c2 (wrap64 (a6 + 1)))=some r:=by first|(rw [j6];with_reducible exact H)|(have b6:=(Option.bind_some _ _).symm.trans H;rw [j6];with_reducible exact b6)|(have b6:=(Option.bind_some _ _).symm.trans H;with_reducible exact b6)|with_reducible exact H|(rw [j6];exact H)|exact H);have I4:=mk0 j6;clear j6;have H':=mk0 H;clear H;obtain ⟨Z9,n8,N7⟩:=Kd.R_slice Y.1;subst N7;obtain ⟨Aa,E3,N8⟩:=Kd.R_slice g8.1;subst N8;have h8:0 ≤ (a6:Int):=of_decide_eq_true (by first|(with_reducible assumption)|assumption);have h9:a6 < (d0.length:Int):=of_decide_eq_true (by first|(with_reducible assumption)|assumption);obtain ⟨j5,v0,m5⟩:=Kd.at_bool (Kd.R_reads' g8.1).2.2 a6 h8 h9;(try rw [← r5.1] at m5);cases v0;replace h8:=eq_true h8;replace h9:=eq_true h9;obtain ⟨Ab,E4,N9⟩:=Kd.R_slice h2.1;subst N9;have v4:0 ≤ (a6:Int):=of_decide_eq_true (by first|(with_reducible assumption)|assumption);have v5:a6 < (c2.length:Int):=of_decide_eq_true (by first|(with_reducible assumption)|assumption);obtain ⟨A3,O0,D0⟩:=Kd.at_bool (Kd.R_reads' h2.1).2.2 a6 v4 v5;(try rw [← r5.1] at D0);cases O0;replace v4:=eq_true v4;replace v5:=eq_true v5;have E5:0 ≤ (a6:Int):=of_decide_eq_true (by first|(with_reducible assumption)|assumption);have E6:(a6:Int) < ((b3.length:Int):Int):=of_decide_eq_true (by first|(with_reducible assumption)|assumption);obtain ⟨i1,Ac,E7,E8,O1,Ad,E9⟩:=Kd.R_form Y.1 (by omega);(first|cases E7|(injection E7 with ea_ en_ ec_;(first|subst ea_|(injection ea_ with ea_;subst ea_));subst ec_;clear en_));have O2:=mk0 E8;have Ae:=mk0 E9;clear E8 O1 E9;obtain ⟨U0,U1⟩:=Kd.R_celln false Y.1 (a6:Int) E5 E6;replace E5:=eq_true E5;replace E6:=eq_true E6;have v6:=Kd.R_putg Y.1 (a6:Int) (rdOf false c2 a6);go_wp2_with (first|((with_reducible refine gate_store (t:=4) (p:=59) rfl ?_);refine store_event (t:=4) (p:=59) (v:=?vo_w38) (w1:=(wr.setCell ⟨i1,(a6:Int).toNat,none⟩ (.bool (rdOf false c2 a6)))) ?hg ?ho ?hn ?hr ?_;(case ho=>rfl);(case hg=>rfl);(case hn=>rfl);(case hr=>first|(go_simp;done)|(go_simp;rfl));intro F0 hw;have hg:wr.grownBy F0 (some i1):=(by rw [hw];exact v6.2);have hp_:Kd.R Kd.bool 4 F0 w.heap.size (fun k_=>some k_ ≠ (.slice (some j5) d0.length E3:Value).ownBlock∧some k_ ≠ (.slice (some A3) c2.length E4:Value).ownBlock) (.slice (some ⟨i1,0,none⟩) b3.length n8) v3:=(by rw [hw,I4.1];exact v6.1);clear v6;replace g8:=mk0 (Kd.R_after (v:=(.slice (some ⟨i1,0,none⟩) b3.length n8)) (v1:=(.slice (some ⟨i1,0,none⟩) b3.length n8)) (ok:=(fun k_=>some k_ ≠ (.slice (some A3) c2.length E4:Value).ownBlock)) (by (with_reducible repeat (first|apply Kd.R_alloc|apply Kd.R_drewN|apply Kd.R_drew));exact Kd.R_mono g8.1 (fun _ hk=>⟨hk.2,hk.1⟩)) hg (.inl rfl));replace h2:=mk0 (Kd.R_after (v:=(.slice (some ⟨i1,0,none⟩) b3.length n8)) (v1:=(.slice (some ⟨i1,0,none⟩) b3.length n8)) (ok:=(fun k_=>some k_ ≠ (.slice (some j5) d0.length E3:Value).ownBlock)) (by (with_reducible repeat (first|apply Kd.R_alloc|apply Kd.R_drewN|apply Kd.R_drew));exact Kd.R_mono h2.1 (fun _ hk=>⟨hk.2,hk.1⟩)) hg (.inl rfl));replace F:=mk0 (blk_grown (g:=I) (o:=.cells #[.int .u8 ((rd_T98 O M).f0),.slice (some g5) ((rd_T98 O M).f1).length U] 98 (0,0)) F.1 hg (Kd.R_ne Y.1 F.1 (by decide)));replace Y:=mk0 (hp_);replace J:=mk0 ((by rw [hw];exact below_set (J.1) O2.1:Below w.heap.size w F0));clear hg hw hp_));go_roundg k1;(case measure=>have:=g0.1;omega);case rel=>exact ⟨(v3),(wrap64 (a6 + 1)),(by first|rfl|(simp;done)|(simp [*];done)),H',⟨by have:=g0.1;omega⟩,⟨by (with_reducible repeat (first|apply Kd.R_alloc|apply Kd.R_drewN|apply Kd.R_drew));exact Y.1⟩,⟨by (with_reducible repeat (first|apply Kd.R_alloc|apply Kd.R_drewN|apply Kd.R_drew));exact Kd.R_mono g8.1 (fun _ hk=>⟨hk.2,hk.1⟩)⟩,⟨by (with_reducible repeat (first|apply Kd.R_alloc|apply Kd.R_drewN|apply Kd.R_drew));exact Kd.R_mono h2.1 (fun _ hk=>⟨hk.2,hk.1⟩)⟩,⟨by exact F.1⟩,⟨by repeat (first|(with_reducible first|exact J.1|apply below_alloc|apply pw_below_drewN|apply below_drew1|refine below_set ?_ V.1)|exact J.1)⟩⟩);· rw [if_neg c32] at H;exact absurd H (by simp));· rw [if_neg c24] at H;exact absurd H (by simp));· rw [if_neg c23] at H;exact absurd H (by simp));· rw [if_neg c22] at H;have c22b0:decide (a6 < (b3.length:Int))=false:=decide_eq_false c22;clear c22;obtain rfl:=Option.some.inj H;obtain ⟨Af,Ag,O3⟩:=Kd.R_slice Y.1;subst O3;go_wp2;go_ret;exact ⟨_,by first|rfl|(simp [errW_none,errW_some] <;> rfl)|(simp [*,errW_none,errW_some] <;> rfl),by (with_reducible repeat (first|apply Kd.R_alloc|apply Kd.R_drewN|apply Kd.R_drew));exact Kd.R_mono Y.1 (fun _ hk=>trivial),by repeat (first|(with_reducible first|exact J.1|apply below_alloc|apply pw_below_drewN|apply below_drew1|refine below_set ?_ V.1)|exact J.1)⟩
      · rw [if_neg c9] at H;exact absurd H (by simp)
     · rw [if_neg c7] at H;exact absurd H (by simp)
    ·
     rw [if_neg c6] at H;have c6b0:(((rd_T98 O M).f0) == 43)=false:=beq_eq_false_iff_ne.mpr c6;have c6b1:(((rd_T98 O M).f0) != 43)=true:=bne_iff_ne.mpr c6;by_cases c40:((rd_T98 O M).f0)=46;· rw [if_pos c40] at H;have c40b0:(((rd_T98 O M).f0) == 46)=true:=beq_iff_eq.mpr c40;have c40b1:(((rd_T98 O M).f0) != 46)=false:=bne_eq_false_iff_eq.mpr c40;clear c40;by_cases c41:0 < (((rd_T98 O M).f1).length:Int);(· rw [if_pos c41] at H;have c41b0:decide (0 < (((rd_T98 O M).f1).length:Int))=true:=decide_eq_true c41;have c41b1:decide (0 < ((rd_T98 O M).f1).length)=true:=decide_eq_true (by omega);clear c41;replace H:=Option.bind_eq_some_iff.mp H;obtain ⟨h5,F1,H⟩:=H;(try dsimp only at H);have U2:=mk0 F1;clear F1;by_cases c43:1 < (((rd_T98 O M).f1).length:Int);(· (rw [if_pos c43] at H;have c43b0:decide (1 < (((rd_T98 O M).f1).length:Int))=true:=decide_eq_true c43;have c43b1:decide (1 < ((rd_T98 O M).f1).length)=true:=decide_eq_true (by omega);clear c43;replace H:=Option.bind_eq_some_iff.mp H;obtain ⟨h6,F2,H⟩:=H;(try dsimp only at H);have U3:=mk0 F2;clear F2;replace H:=Option.bind_eq_some_iff.mp H;obtain ⟨m9,F3,H⟩:=H;(try dsimp only at H);have U4:=mk0 F3;clear F3;obtain rfl:=Option.some.inj H;go_enter Try.func62,Try.ntmps62;try go_wp2);replace J:=hdr J;have e2:0 ≤ (M:Int):=of_decide_eq_true (by first|(with_reducible assumption)|assumption);have e3:M < (O.length:Int):=of_decide_eq_true (by first|(with_reducible assumption)|assumption);obtain ⟨a4,a3,U,h7,a8,a9,d3,d4⟩:=at_T98 j2.1 M e2 e3;have D:=a9;have E:=a8;cases h7;replace a8:=bd_ J a8;replace a9:=bd_ J a9;have d1:=mk0 d4;have m4:=mk0 d3;clear d4 d3;replace e2:=eq_true e2;replace e3:=eq_true e3;refine start_ (n:=8) (S:=fun w'=>w'.cell? (a4.add ((M).toNat * 2))=some (.int .u8 ((rd_T98 O M).f0))∧w'.cell? ⟨(a4.add ((M).toNat * 2)).block,(a4.add ((M).toNat * 2)).off + 1,none⟩=some (.slice a3 ((rd_T98 O M).f1).length U)) (ds:=[]) #[n_,n_,n_,n_,n_,n_,n_,n_] (by kernel_rfl) rfl rfl ⟨(bd_ J E),(bd_ J D)⟩ (fun L=>?_);refine with_tabW bellpullref05_Images.tab1 bellpullref05_Images.bits1 (fun Z g2=>?_);generalize w.drew=Bd at J d1 a8 a9 L ⊢;refine pure_ (i:=0) (N:=some 14) (v:=?_) (a':=?_) #[y_,n_,n_,n_,n_,n_,n_,n_] rfl rfl (any_of Z.1 (by kernel_rfl)) (fun _ _ _ h=>h) (Or.inl ⟨by rfl,?_⟩) ?_ ?_;rotate_left;(· intro w';go_simp;with_reducible rfl);rotate_left;(· simp only [Act.put,s0_,s1_,s2_,i64_w,i32_w];rfl);refine pure_ (i:=1) (N:=some 15) (v:=?_) (a':=?_) #[y_,y_,n_,n_,n_,n_,n_,n_] rfl rfl (any_of Z.1 (by kernel_rfl)) (fun _ _ _ h=>h) (Or.inl ⟨by rfl,?_⟩) ?_ ?_;rotate_left;(· intro w';go_simp;with_reducible rfl);rotate_left;(· simp only [Act.put,s0_,s1_,s2_,i64_w,i32_w];rfl);refine pure_ (i:=2) (N:=some 16) (v:=?_) (a':=?_) #[y_,y_,y_,n_,n_,n_,n_,n_] rfl rfl (any_of Z.1 (by kernel_rfl)) (fun _ _ _ h=>h) (Or.inl ⟨by rfl,?_⟩) ?_ ?_;rotate_left;(· intro w';go_simp;with_reducible rfl);rotate_left;(· simp only [Act.put,s0_,s1_,s2_,i64_w,i32_w];rfl);refine take_ (i:=3) (N:=some 17) (v:=?_) (a':=?_) #[y_,y_,y_,y_,n_,n_,n_,n_] rfl rfl (take_ofW Z.1 g2.1 (by kernel_rfl)) (fun _ _ _ h=>h) (Or.inl ⟨by rfl,?_⟩) L ?_ ?_;rotate_left;(· rintro w' ⟨s0,s1⟩;go_simp;with_reducible rfl);rotate_left;(· simp only [Act.put,s0_,s1_,s2_,i64_w,i32_w];rfl);refine join_ (σ:=Value × Nat) 1 #[y_,y_,y_,y_,y_,y_,y_,n_] (fun s_=>[(18,s_.1),(5,.pointer (some ⟨s_.2,0,none⟩))]) (fun s_ w'=>(w'.cell? (a4.add ((M).toNat * 2))=some (.int .u8 ((rd_T98 O M).f0))∧w'.cell? ⟨(a4.add ((M).toNat * 2)).block,(a4.add ((M).toNat * 2)).off + 1,none⟩=some (.slice a3 ((rd_T98 O M).f1).length U))∧(Kd.R Kd.bool 4 w' w.heap.size (fun _=>True) s_.1 b5)∧(w'.heap[s_.2]?=some (.cells #[.int .u8 ((rd_T98 O M).f0),.slice a3 ((rd_T98 O M).f1).length U] 98 (0,0)))∧(w.heap.size ≤ s_.2)∧(w.heap.size ≤ s_.2)∧(Below w.heap.size w w')) ?_ ?_;rotate_left;(· intro hCont;refine two_ (i:=4) (j:=5) (Ni:=some 18) (Nj:=some 5) #[y_,y_,y_,y_,y_,n_,n_,n_] #[y_,y_,y_,y_,n_,y_,n_,n_] rfl rfl rfl rfl (two_of Z.1 (by kernel_rfl)) (by decide) (by decide) (fun K hK=>?_) (fun K hK=>?_);(· skip;refine Kd.R_make_step Kd.bool _ 4 (by rfl) (N:=18) rfl 99 _ _ rfl 729 rfl rfl Try.underlying99 (.bool false) 1 info4 rfl (by decide) (by omega) false (ok:=fun _=>True) (okp:=fun _=>True) rfl (fun _ hk=>hk) trivial (by omega) (by omega) (Below.refl _ _) (Nat.le_refl _) ?_;intro b7 U5 n9 hb hg_ b9;clear hg_ b9;(first|rw [← b8.1] at n9|(simp only [Int.reduceToNat] at n9;rw [← b8.1] at n9));have Q:=mk0 (Kd.R_lower n9 (below_size J.1));replace J:=bst J hb;clear hb n9;refine hK.out _ _ ⟨(bd_ J E),(bd_ J D)⟩ (fun L=>?_);clear hK K;refine norm_ (a':=?_) ?_ ?_;rotate_left;(· show Act.put _ (some 18) _=_;simp only [Act.put,s0_,s1_,s2_,i64_w,i32_w];rfl);refine one_ (i:=5) (N:=some 5) #[y_,y_,y_,y_,y_,y_,n_,n_] rfl rfl (one_of Z.1 (by kernel_rfl)) (by decide) (fun K hK=>?_);refine box_step ?hg (N:=5) ?hd (cs:=#[.int .u8 0,.slice none 0 0]) (t:=98) ?hr ?_;(case hd=>rfl);(case hg=>rfl);(case hr=>first|(go_simp;done)|(go_simp;rfl));intro I hg Be c8 hb;have F:=mk0 (c8);have B:=szw hg J;have V:=szw hg J;replace Q:=rbl Q hb;replace J:=bst J hb;clear hb c8 hg;refine hK.out _ _ ⟨(bd_ J E),(bd_ J D)⟩ (fun L=>?_);clear hK K;refine norm_ (a':=?_) ?_ ?_;rotate_left;(· show Act.put _ (some 5) _=_;simp only [Act.put,s0_,s1_,s2_,i64_w,i32_w];rfl);refine one_ (i:=6) (N:=none) #[y_,y_,y_,y_,y_,y_,y_,n_] rfl rfl (one_of Z.1 (by kernel_rfl)) (by decide) (fun K hK=>?_);have O4:=q0_ F;have I5:=blk_frozen F.1 0;have O5:=q1_ F;have I6:=blk_frozen F.1 1;refine skip_ (w1:=?_) (by rfl) rfl ?_ ?_;rotate_left;(· go_simp;rfl);refine hK.out _ _ ⟨((cell_far (p:=⟨I,_,none⟩) (by first|exact (by first|exact nb_ E B.1|exact nc_ E B.1)|(rw [add_block];exact (by first|exact nb_ E B.1|exact nc_ E B.1))|(show (Addr.add _ _).block ≠ _;rw [add_block];exact (by first|exact nb_ E B.1|exact nc_ E B.1))|(dsimp only;exact (by first|exact nb_ E B.1|exact nc_ E B.1))) _).trans (((cell_far (p:=⟨I,_,none⟩) (by first|exact (by first|exact nb_ E B.1|exact nc_ E B.1)|(rw [add_block];exact (by first|exact nb_ E B.1|exact nc_ E B.1))|(show (Addr.add _ _).block ≠ _;rw [add_block];exact (by first|exact nb_ E B.1|exact nc_ E B.1))|(dsimp only;exact (by first|exact nb_ E B.1|exact nc_ E B.1))) _).trans (L.1)))),((cell_far (p:=⟨I,_,none⟩) (by first|exact (by first|exact nb_ D B.1|exact nc_ D B.1)|(rw [add_block];exact (by first|exact nb_ D B.1|exact nc_ D B.1))|(show (Addr.add _ _).block ≠ _;rw [add_block];exact (by first|exact nb_ D B.1|exact nc_ D B.1))|(dsimp only;exact (by first|exact nb_ D B.1|exact nc_ D B.1))) _).trans (((cell_far (p:=⟨I,_,none⟩) (by first|exact (by first|exact nb_ D B.1|exact nc_ D B.1)|(rw [add_block];exact (by first|exact nb_ D B.1|exact nc_ D B.1))|(show (Addr.add _ _).block ≠ _;rw [add_block];exact (by first|exact nb_ D B.1|exact nc_ D B.1))|(dsimp only;exact (by first|exact nb_ D B.1|exact nc_ D B.1))) _).trans (L.2))))⟩ (fun L=>?_);clear hK K;exact norm_ (by simp only [putAll,Act.put,s0_,s1_,s2_]) (hCont (b7,I) _ ⟨L,(by (with_reducible repeat (first|apply Kd.R_alloc|apply Kd.R_drewN|apply Kd.R_drew));exact Kd.R_mono (Kd.R_far (p:=⟨I,1,none⟩) (Kd.R_far (p:=⟨I,0,none⟩) (Kd.R_types Q.1 F.1 (by decide)) (fun _ hk=>hk.2) (.int .u8 ((rd_T98 O M).f0))) (fun _ hk=>hk.2) (.slice a3 ((rd_T98 O M).f1).length U)) (fun _ hk=>trivial)),(by refine blk_put (cs:=#[.int .u8 ((rd_T98 O M).f0),.slice none 0 0]) ?_ 1 _ rfl;refine blk_put (cs:=#[.int .u8 0,.slice none 0 0]) ?_ 0 _ rfl;exact F.1),B.1,V.1,(by repeat (with_reducible first|exact J.1|refine below_set ?_ V.1))⟩));· skip;refine box_step ?hg (N:=5) ?hd (cs:=#[.int .u8 0,.slice none 0 0]) (t:=98) ?hr ?_;(case hd=>rfl);(case hg=>rfl);(case hr=>first|(go_simp;done)|(go_simp;rfl));intro I hg U5 c8 hb;have F:=mk0 (c8);have B:=szw hg J;have V:=szw hg J;replace J:=bst J hb;clear hb c8 hg;refine hK.out _ _ ⟨(bd_ J E),(bd_ J D)⟩ (fun L=>?_);clear hK K;refine norm_ (a':=?_) ?_ ?_;rotate_left;(· show Act.put _ (some 5) _=_;simp only [Act.put,s0_,s1_,s2_,i64_w,i32_w];rfl);refine two_ (i:=4) (j:=6) (Ni:=some 18) (Nj:=none) #[y_,y_,y_,y_,y_,y_,n_,n_] #[y_,y_,y_,y_,n_,y_,y_,n_] rfl rfl rfl rfl (two_of Z.1 (by kernel_rfl)) (by decide) (by decide) (fun K hK=>?_) (fun K hK=>?_);(· skip;refine Kd.R_make_step Kd.bool _ 4 (by rfl) (N:=18) rfl 99 _ _ rfl 729 rfl rfl Try.underlying99 (.bool false) 1 info4 rfl (by decide) (by omega) false (ok:=fun _=>True) (okp:=fun _=>True) rfl (fun _ hk=>hk) trivial (by omega) (by omega) (Below.refl _ _) (Nat.le_refl _) ?_;intro b7 Bf o0 hb hg_ b9;clear hg_ b9;(first|rw [← b8.1] at o0|(simp only [Int.reduceToNat] at o0;rw [← b8.1] at o0));have Q:=mk0 (Kd.R_lower o0 (below_size J.1));replace F:=bkb F hb;replace J:=bst J hb;clear hb o0;refine hK.out _ _ ⟨(bd_ J E),(bd_ J D)⟩ (fun L=>?_);clear hK K;refine norm_ (a':=?_) ?_ ?_;rotate_left;(· show Act.put _ (some 18) _=_;simp only [Act.put,s0_,s1_,s2_,i64_w,i32_w];rfl);refine one_ (i:=6) (N:=none) #[y_,y_,y_,y_,y_,y_,y_,n_] rfl rfl (one_of Z.1 (by kernel_rfl)) (by decide) (fun K hK=>?_);have O4:=q0_ F;have I5:=blk_frozen F.1 0;have O5:=q1_ F;have I6:=blk_frozen F.1 1;refine skip_ (w1:=?_) (by rfl) rfl ?_ ?_;rotate_left;(· go_simp;rfl);refine hK.out _ _ ⟨((cell_far (p:=⟨I,_,none⟩) (by first|exact (by first|exact nb_ E B.1|exact nc_ E B.1)|(rw [add_block];exact (by first|exact nb_ E B.1|exact nc_ E B.1))|(show (Addr.add _ _).block ≠ _;rw [add_block];exact (by first|exact nb_ E B.1|exact nc_ E B.1))|(dsimp only;exact (by first|exact nb_ E B.1|exact nc_ E B.1))) _).trans (((cell_far (p:=⟨I,_,none⟩) (by first|exact (by first|exact nb_ E B.1|exact nc_ E B.1)|(rw [add_block];exact (by first|exact nb_ E B.1|exact nc_ E B.1))|(show (Addr.add _ _).block ≠ _;rw [add_block];exact (by first|exact nb_ E B.1|exact nc_ E B.1))|(dsimp only;exact (by first|exact nb_ E B.1|exact nc_ E B.1))) _).trans (L.1)))),((cell_far (p:=⟨I,_,none⟩) (by first|exact (by first|exact nb_ D B.1|exact nc_ D B.1)|(rw [add_block];exact (by first|exact nb_ D B.1|exact nc_ D B.1))|(show (Addr.add _ _).block ≠ _;rw [add_block];exact (by first|exact nb_ D B.1|exact nc_ D B.1))|(dsimp only;exact (by first|exact nb_ D B.1|exact nc_ D B.1))) _).trans (((cell_far (p:=⟨I,_,none⟩) (by first|exact (by first|exact nb_ D B.1|exact nc_ D B.1)|(rw [add_block];exact (by first|exact nb_ D B.1|exact nc_ D B.1))|(show (Addr.add _ _).block ≠ _;rw [add_block];exact (by first|exact nb_ D B.1|exact nc_ D B.1))|(dsimp only;exact (by first|exact nb_ D B.1|exact nc_ D B.1))) _).trans (L.2))))⟩ (fun L=>?_);clear hK K;exact norm_ (by simp only [putAll,Act.put,s0_,s1_,s2_]) (hCont (b7,I) _ ⟨L,(by (with_reducible repeat (first|apply Kd.R_alloc|apply Kd.R_drewN|apply Kd.R_drew));exact Kd.R_mono (Kd.R_far (p:=⟨I,1,none⟩) (Kd.R_far (p:=⟨I,0,none⟩) (Kd.R_types Q.1 F.1 (by decide)) (fun _ hk=>hk.2) (.int .u8 ((rd_T98 O M).f0))) (fun _ hk=>hk.2) (.slice a3 ((rd_T98 O M).f1).length U)) (fun _ hk=>trivial)),(by refine blk_put (cs:=#[.int .u8 ((rd_T98 O M).f0),.slice none 0 0]) ?_ 1 _ rfl;refine blk_put (cs:=#[.int .u8 0,.slice none 0 0]) ?_ 0 _ rfl;exact F.1),B.1,V.1,(by repeat (with_reducible first|exact J.1|refine below_set ?_ V.1))⟩));· skip;have Ah:=q0_ F;have X4:=blk_frozen F.1 0;have Ai:=q1_ F;have X5:=blk_frozen F.1 1;refine skip_ (w1:=?_) (by rfl) rfl ?_ ?_;rotate_left;(· go_simp;rfl);refine hK.out _ _ ⟨((cell_far (p:=⟨I,_,none⟩) (by first|exact (by first|exact nb_ E B.1|exact nc_ E B.1)|(rw [add_block];exact (by first|exact nb_ E B.1|exact nc_ E B.1))|(show (Addr.add _ _).block ≠ _;rw [add_block];exact (by first|exact nb_ E B.1|exact nc_ E B.1))|(dsimp only;exact (by first|exact nb_ E B.1|exact nc_ E B.1))) _).trans (((cell_far (p:=⟨I,_,none⟩) (by first|exact (by first|exact nb_ E B.1|exact nc_ E B.1)|(rw [add_block];exact (by first|exact nb_ E B.1|exact nc_ E B.1))|(show (Addr.add _ _).block ≠ _;rw [add_block];exact (by first|exact nb_ E B.1|exact nc_ E B.1))|(dsimp only;exact (by first|exact nb_ E B.1|exact nc_ E B.1))) _).trans (L.1)))),((cell_far (p:=⟨I,_,none⟩) (by first|exact (by first|exact nb_ D B.1|exact nc_ D B.1)|(rw [add_block];exact (by first|exact nb_ D B.1|exact nc_ D B.1))|(show (Addr.add _ _).block ≠ _;rw [add_block];exact (by first|exact nb_ D B.1|exact nc_ D B.1))|(dsimp only;exact (by first|exact nb_ D B.1|exact nc_ D B.1))) _).trans (((cell_far (p:=⟨I,_,none⟩) (by first|exact (by first|exact nb_ D B.1|exact nc_ D B.1)|(rw [add_block];exact (by first|exact nb_ D B.1|exact nc_ D B.1))|(show (Addr.add _ _).block ≠ _;rw [add_block];exact (by first|exact nb_ D B.1|exact nc_ D B.1))|(dsimp only;exact (by first|exact nb_ D B.1|exact nc_ D B.1))) _).trans (L.2))))⟩ (fun L=>?_);clear hK K;refine one_ (i:=4) (N:=some 18) #[y_,y_,y_,y_,y_,y_,y_,n_] rfl rfl (one_of Z.1 (by kernel_rfl)) (by decide) (fun K hK=>?_);refine Kd.R_make_step Kd.bool _ 4 (by rfl) (N:=18) rfl 99 _ _ rfl 729 rfl rfl Try.underlying99 (.bool false) 1 info4 rfl (by decide) (by omega) false (ok:=fun _=>True) (okp:=fun _=>True) rfl (fun _ hk=>hk) trivial (by omega) (by omega) (Below.refl _ _) (Nat.le_refl _) ?_;intro b7 Bg o1 hb hg_ b9;clear hg_ b9;(first|rw [← b8.1] at o1|(simp only [Int.reduceToNat] at o1;rw [← b8.1] at o1));have Q:=mk0 (Kd.R_lower o1 (below_size (by repeat (with_reducible first|exact J.1|refine below_set ?_ V.1))));replace F:=mk0 (blk_below (g:=I) (o:=.cells #[.int .u8 ((rd_T98 O M).f0),.slice a3 ((rd_T98 O M).f1).length U] 98 (0,0)) (by refine blk_put (cs:=#[.int .u8 ((rd_T98 O M).f0),.slice none 0 0]) ?_ 1 _ rfl;refine blk_put (cs:=#[.int .u8 0,.slice none 0 0]) ?_ 0 _ rfl;exact F.1) hb);replace J:=mk0 (below_step (by repeat (with_reducible first|exact J.1|refine below_set ?_ V.1)) hb);clear hb o1;refine hK.out _ _ ⟨(bd_ J E),(bd_ J D)⟩ (fun L=>?_);clear hK K;refine norm_ (a':=?_) ?_ ?_;rotate_left;(· show Act.put _ (some 18) _=_;simp only [Act.put,s0_,s1_,s2_,i64_w,i32_w];rfl);exact norm_ (by simp only [putAll,Act.put,s0_,s1_,s2_]) (hCont (b7,I) _ ⟨L,Q.1,F.1,B.1,V.1,J.1⟩));clear J;rintro ⟨b7,I⟩ u2 f9;(try dsimp only at f9);replace f9:=h_ (m4_ l_) f9;obtain ⟨n5,Q,F,B,V,J⟩:=f9;have L:u2.cell? (a4.add ((M).toNat * 2))=some (.int .u8 ((rd_T98 O M).f0))∧u2.cell? ⟨(a4.add ((M).toNat * 2)).block,(a4.add ((M).toNat * 2)).off + 1,none⟩=some (.slice a3 ((rd_T98 O M).f1).length U):=n5;refine norm_ (a':=?_) ?_ ?_;rotate_left;(· simp only [putAll,Act.put,s0_,s1_,s2_];rfl);refine pure_ (i:=7) (N:=some 6) (v:=?_) (a':=?_) #[y_,y_,y_,y_,y_,y_,y_,y_] rfl rfl (any_of Z.1 (by kernel_rfl)) (fun _ _ _ h=>h) (Or.inl ⟨by rfl,?_⟩) ?_ ?_;rotate_left;(· intro w';go_simp;with_reducible rfl);rotate_left;(· simp only [Act.put,s0_,s1_,s2_,i64_w,i32_w];rfl);(refine done_ (done_of Z.1 (by kernel_rfl)) ?_;have p8:u2.cell? ⟨I,0,none⟩=some (.int .u8 ((rd_T98 O M).f0)):=q0_ F;have p9:u2.cell? ⟨I,1,none⟩=some (.slice a3 ((rd_T98 O M).f1).length U):=q1_ F;have q0:=blk_frozen F.1 0;have q1:=blk_frozen F.1 1;try go_wp2);replace Q:=rdr Q;replace F:=bdr F;replace J:=hdr J;have o2:0 ≤ (0:Int):=(by omega);have o3:0 < (((rd_T98 O M).f1).length:Int):=of_decide_eq_true (by first|(with_reducible assumption)|assumption);obtain ⟨j7,O6,e6⟩:=Kd.at_int d1.1 0 o2 o3;have d6:=e6;(try rw [show ((0:Int)).toNat=0 from rfl] at d6);(try rw [show 0 * 1=0 from rfl] at d6);(try rw [Addr.add_zero'] at d6);cases O6;have X6:(0 < ((rd_T98 O M).f1).length)=True:=eq_true (by omega);(try rw [show ((0:Int)).toNat=0 from rfl] at e6);(try rw [Addr.add_zero'] at e6);replace e6:=bd_ J e6;replace o2:=eq_true o2;replace o3:=eq_true o3;have o4:0 ≤ (1:Int):=(by omega);have o5:1 < (((rd_T98 O M).f1).length:Int):=of_decide_eq_true (by first|(with_reducible assumption)|assumption);obtain ⟨I7,O7,e7⟩:=Kd.at_int d1.1 1 o4 o5;have d7:=e7;(try rw [show ((1:Int)).toNat=1 from rfl] at d7);(try rw [show 1 * 1=1 from rfl] at d7);(try simp only [Nat.reduceMul,Nat.reduceEqDiff,Go.Addr.add,↓reduceIte] at d7);obtain rfl:j7=I7:=(by injection O7);(try simp only [show (1:Int).toNat=1 from rfl,Nat.reduceMul,Nat.reduceEqDiff,Go.Addr.add,↓reduceIte] at e7);have X7:(1 < ((rd_T98 O M).f1).length)=True:=eq_true (by omega);(try rw [show ((1:Int)).toNat=1 from rfl] at e7);replace e7:=bd_ J e7;replace o4:=eq_true o4;replace o5:=eq_true o5;refine start_ (n:=14) (S:=fun w'=>w'.cell? ⟨I,0,none⟩=some (.int .u8 ((rd_T98 O M).f0))∧w'.cell? ⟨I,1,none⟩=some (.slice (some j7) ((rd_T98 O M).f1).length U)∧w'.cell? j7=some (.int .i64 (rd ((rd_T98 O M).f1) 0))∧w'.cell? ⟨j7.block,j7.off + 1,none⟩=some (.int .i64 (rd ((rd_T98 O M).f1) 1))) (ds:=[]) #[n_,n_,n_,n_,n_,n_,n_,n_,n_,n_,n_,n_,n_,n_] (by kernel_rfl) rfl rfl ⟨q0_ F,q1_ F,(bd_ J d6),(bd_ J d7)⟩ (fun L=>?_);refine with_tabW bellpullref05_Images.tab11 bellpullref05_Images.bits11 (fun Z g2=>?_);generalize u2.drew=Bh at Q F J e6 e7 L ⊢;refine pure_ (i:=0) (N:=some 62) (v:=?_) (a':=?_) #[y_,n_,n_,n_,n_,n_,n_,n_,n_,n_,n_,n_,n_,n_] rfl rfl (any_of Z.1 (by kernel_rfl)) (fun _ _ _ h=>h) (Or.inl ⟨by rfl,?_⟩) ?_ ?_;rotate_left;(· intro w';go_simp;with_reducible rfl);rotate_left;(· simp only [Act.put,s0_,s1_,s2_,i64_w,i32_w];rfl);refine pure_ (i:=1) (N:=some 63) (v:=?_) (a':=?_) #[y_,y_,n_,n_,n_,n_,n_,n_,n_,n_,n_,n_,n_,n_] rfl rfl (any_of Z.1 (by kernel_rfl)) (fun _ _ _ h=>h) (Or.inl ⟨by rfl,?_⟩) ?_ ?_;rotate_left;(· intro w';go_simp;with_reducible rfl);rotate_left;(· simp only [Act.put,s0_,s1_,s2_,i64_w,i32_w];rfl);refine pure_ (i:=6) (N:=some 68) (v:=?_) (a':=?_) #[y_,y_,n_,n_,n_,n_,y_,n_,n_,n_,n_,n_,n_,n_] rfl rfl (any_of Z.1 (by kernel_rfl)) (fun _ _ _ h=>h) (Or.inl ⟨by rfl,?_⟩) ?_ ?_;rotate_left;(· intro w';go_simp;with_reducible rfl);rotate_left;(· simp only [Act.put,s0_,s1_,s2_,i64_w,i32_w];rfl);refine pure_ (i:=7) (N:=some 69) (v:=?_) (a':=?_) #[y_,y_,n_,n_,n_,n_,y_,y_,n_,n_,n_,n_,n_,n_] rfl rfl (any_of Z.1 (by kernel_rfl)) (fun _ _ _ h=>h) (Or.inl ⟨by rfl,?_⟩) ?_ ?_;rotate_left;(· intro w';go_simp;with_reducible rfl);rotate_left;(· simp only [Act.put,s0_,s1_,s2_,i64_w,i32_w];rfl);refine take_ (i:=2) (N:=some 64) (v:=?_) (a':=?_) #[y_,y_,y_,n_,n_,n_,y_,y_,n_,n_,n_,n_,n_,n_] rfl rfl (take_ofW Z.1 g2.1 (by kernel_rfl)) (fun _ _ _ h=>h) (Or.inl ⟨by rfl,?_⟩) L ?_ ?_;rotate_left;(· rintro w' ⟨s0,s1,s2,s3⟩;go_simp;with_reducible rfl);rotate_left;(· simp only [Act.put,s0_,s1_,s2_,i64_w,i32_w];rfl);refine pure_ (i:=3) (N:=some 65) (v:=?_) (a':=?_) #[y_,y_,y_,y_,n_,n_,y_,y_,n_,n_,n_,n_,n_,n_] rfl rfl (any_of Z.1 (by kernel_rfl)) (fun _ _ _ h=>h) (Or.inl ⟨by rfl,?_⟩) ?_ ?_;rotate_left;(· intro w';go_simp;with_reducible rfl);rotate_left;(· simp only [Act.put,s0_,s1_,s2_,i64_w,i32_w];rfl);refine take_ (i:=4) (N:=some 66) (v:=?_) (a':=?_) #[y_,y_,y_,y_,y_,n_,y_,y_,n_,n_,n_,n_,n_,n_] rfl rfl (take_ofW Z.1 g2.1 (by kernel_rfl)) (fun _ _ _ h=>h) (Or.inl ⟨by rfl,?_⟩) L ?_ ?_;rotate_left;(· rintro w' ⟨s0,s1,s2,s3⟩;go_simp;with_reducible rfl);rotate_left;(· simp only [Act.put,s0_,s1_,s2_,i64_w,i32_w];rfl);refine take_ (i:=8) (N:=some 70) (v:=?_) (a':=?_) #[y_,y_,y_,y_,y_,n_,y_,y_,y_,n_,n_,n_,n_,n_] rfl rfl (take_ofW Z.1 g2.1 (by kernel_rfl)) (fun _ _ _ h=>h) (Or.inl ⟨by rfl,?_⟩) L ?_ ?_;rotate_left;(· rintro w' ⟨s0,s1,s2,s3⟩;go_simp;with_reducible rfl);rotate_left;(· simp only [Act.put,s0_,s1_,s2_,i64_w,i32_w];rfl);refine pure_ (i:=9) (N:=some 71) (v:=?_) (a':=?_) #[y_,y_,y_,y_,y_,n_,y_,y_,y_,y_,n_,n_,n_,n_] rfl rfl (any_of Z.1 (by kernel_rfl)) (fun _ _ _ h=>h) (Or.inl ⟨by rfl,?_⟩) ?_ ?_;rotate_left;(· intro w';go_simp;with_reducible rfl);rotate_left;(· simp only [Act.put,s0_,s1_,s2_,i64_w,i32_w];rfl);refine take_ (i:=10) (N:=some 72) (v:=?_) (a':=?_) #[y_,y_,y_,y_,y_,n_,y_,y_,y_,y_,y_,n_,n_,n_] rfl rfl (take_ofW Z.1 g2.1 (by kernel_rfl)) (fun _ _ _ h=>h) (Or.inl ⟨by rfl,?_⟩) L ?_ ?_;rotate_left;(· rintro w' ⟨s0,s1,s2,s3⟩;go_simp;with_reducible rfl);rotate_left;(· simp only [Act.put,s0_,s1_,s2_,i64_w,i32_w];rfl);(refine one_ (i:=5) (N:=some 67) #[y_,y_,y_,y_,y_,y_,y_,y_,y_,y_,y_,n_,n_,n_] rfl rfl (one_of Z.1 (by kernel_rfl)) (by decide) (fun K hK=>?_);refine goes_ Try.func62 (by kernel_rfl) rfl #[.slice (some a4) O.length c0,.int .i64 (rd ((rd_T98 O M).f1) 0)] (by rfl) rfl rfl (by (try simp only [m0_,m1_,m2_]);first|done|rfl|(simp only [l0_,l1_];rfl)) ?_;with_reducible refine (ih k (by omega) _ _ O (rd ((rd_T98 O M).f1) 0) h5 _ ?side1 ?side2 U2.1).mono ?_);(case side1=>repeat (first|exact (Kd.C_below j2.1 J.1)|(with_reducible refine Kd.C_alloc ?_ _)|(with_reducible refine Kd.C_drewN ?_ _)|(with_reducible refine Kd.C_drew ?_)));(case side2=>exact u0.1);rintro e Bi ⟨Aj,rfl,c1,hb⟩;refine ⟨_,rfl,?_⟩;have g3:=mk0 (Kd.R_lower (Kd.R_new' c1 (Kd.R_lt Q.1)) (below_size J.1));replace Q:=mk0 (Kd.R_elder' Q.1 (Kd.R_base c1) hb);replace F:=bkb F hb;replace J:=bst J hb;(try clear hb);(try clear c1);refine hK.out _ _ ⟨q0_ F,q1_ F,(bd_ J d6),(bd_ J d7)⟩ (fun L=>?_);clear hK K;refine norm_ (a':=?_) ?_ ?_;rotate_left;(· show Act.put _ (some 67) _=_;simp only [Act.put,s0_,s1_,s2_,i64_w,i32_w];rfl);(refine one_ (i:=11) (N:=some 73) #[y_,y_,y_,y_,y_,y_,y_,y_,y_,y_,y_,y_,n_,n_] rfl rfl (one_of Z.1 (by kernel_rfl)) (by decide) (fun K hK=>?_);refine goes_ Try.func62 (by kernel_rfl) rfl #[.slice (some a4) O.length c0,.int .i64 (rd ((rd_T98 O M).f1) 1)] (by rfl) rfl rfl (by (try simp only [m0_,m1_,m2_]);first|done|rfl|(simp only [l0_,l1_];rfl)) ?_;with_reducible refine (ih k (by omega) _ _ O (rd ((rd_T98 O M).f1) 1) h6 _ ?side1 ?side2 U3.1).mono ?_);(case side1=>repeat (first|exact (Kd.C_below j2.1 J.1)|(with_reducible refine Kd.C_alloc ?_ _)|(with_reducible refine Kd.C_drewN ?_ _)|(with_reducible refine Kd.C_drew ?_)));(case side2=>exact u0.1);rintro e Bj ⟨Ak,rfl,c1,hb⟩;refine ⟨_,rfl,?_⟩;have h4:=mk0 (Kd.R_lower (Kd.R_new' (Kd.R_new' c1 (Kd.R_lt Q.1)) (Kd.R_lt g3.1)) (below_size J.1));replace Q:=mk0 (Kd.R_elder' Q.1 (Kd.R_base c1) hb);replace g3:=mk0 (Kd.R_elder' g3.1 (Kd.R_base c1) hb);replace F:=bkb F hb;replace J:=bst J hb;(try clear hb);(try clear c1);obtain ⟨O8,O9,F4⟩:=Kd.R_slice g3.1;(first|subst F4|(injection F4 with f1_ f2_ f3_;have f4_:=f1_.symm;have F5:=f3_.symm;clear f1_ f2_ f3_;subst f4_;subst F5));obtain ⟨Q0,Q1,F6⟩:=Kd.R_slice h4.1;(first|subst F6|(injection F6 with f1_ f2_ f3_;have f4_:=f1_.symm;have F5:=f3_.symm;clear f1_ f2_ f3_;subst f4_;subst F5));refine hK.out _ _ ⟨q0_ F,q1_ F,(bd_ J d6),(bd_ J d7)⟩ (fun L=>?_);clear hK K;refine norm_ (a':=?_) ?_ ?_;rotate_left;(· show Act.put _ (some 73) _=_;simp only [Act.put,s0_,s1_,s2_,i64_w,i32_w];rfl);(refine one_ (i:=12) (N:=some 74) #[y_,y_,y_,y_,y_,y_,y_,y_,y_,y_,y_,y_,y_,n_] rfl rfl (one_of Z.1 (by kernel_rfl)) (by decide) (fun K hK=>?_);refine goes_ Try.func92 (by kernel_rfl) rfl #[.slice O8 h5.length O9,.slice Q0 h6.length Q1] (by rfl) rfl rfl (by (try simp only [m0_,m1_,m2_]);first|done|rfl|(simp only [l0_,l1_];rfl)) ?_;with_reducible refine (bellpullref05_joined.calls k _ _ h5 _ _ h6 m9 _ ?side1 ?side2 ?side3 ?side4 U4.1).mono ?_);(case side1=>repeat (first|exact (Kd.R_reads' g3.1).2.2|(with_reducible refine Kd.C_alloc ?_ _)|(with_reducible refine Kd.C_drewN ?_ _)|(with_reducible refine Kd.C_drew ?_)));(case side2=>exact (Kd.R_reads' g3.1).2.1);(case side3=>repeat (first|exact (Kd.R_reads' h4.1).2.2|(with_reducible refine Kd.C_alloc ?_ _)|(with_reducible refine Kd.C_drewN ?_ _)|(with_reducible refine Kd.C_drew ?_)));(case side4=>exact (Kd.R_reads' h4.1).2.1);rintro e Bk ⟨Al,rfl,c1,hb⟩;refine ⟨_,rfl,?_⟩;have I8:=mk0 (Kd.R_lower (Kd.R_new' (Kd.R_new' (Kd.R_new' c1 (Kd.R_lt Q.1)) (Kd.R_lt g3.1)) (Kd.R_lt h4.1)) (below_size J.1));replace Q:=mk0 (Kd.R_elder' Q.1 (Kd.R_base c1) hb);replace g3:=mk0 (Kd.R_elder' g3.1 (Kd.R_base c1) hb);replace h4:=mk0 (Kd.R_elder' h4.1 (Kd.R_base c1) hb);replace F:=bkb F hb;replace J:=bst J hb;(try clear hb);(try clear c1);refine hK.out _ _ ⟨q0_ F,q1_ F,(bd_ J d6),(bd_ J d7)⟩ (fun L=>?_);clear hK K;refine norm_ (a':=?_) ?_ ?_;rotate_left;(· show Act.put _ (some 74) _=_;simp only [Act.put,s0_,s1_,s2_,i64_w,i32_w];rfl);refine pure_ (i:=13) (N:=some 4) (v:=?_) (a':=?_) #[y_,y_,y_,y_,y_,y_,y_,y_,y_,y_,y_,y_,y_,y_] rfl rfl (any_of Z.1 (by kernel_rfl)) (fun _ _ _ h=>h) (Or.inl ⟨by rfl,?_⟩) ?_ ?_;rotate_left;(· intro w';go_simp;with_reducible rfl);rotate_left;(· simp only [Act.put,s0_,s1_,s2_,i64_w,i32_w];rfl);(refine done_ (done_of Z.1 (by kernel_rfl)) ?_;try go_wp2);go_ret;exact ⟨_,by first|rfl|(simp [errW_none,errW_some] <;> rfl)|(simp [*,errW_none,errW_some] <;> rfl),by (with_reducible repeat (first|apply Kd.R_alloc|apply Kd.R_drewN|apply Kd.R_drew));exact Kd.R_mono I8.1 (fun _ hk=>trivial),by repeat (first|(with_reducible first|exact J.1|apply below_alloc|apply pw_below_drewN|apply below_drew1|refine below_set ?_ V.1)|exact J.1)⟩);· rw [if_neg c43] at H;exact absurd H (by simp));· rw [if_neg c41] at H;exact absurd H (by simp)
     ·
      rw [if_neg c40] at H;have c40b0:(((rd_T98 O M).f0) == 46)=false:=beq_eq_false_iff_ne.mpr c40;have c40b1:(((rd_T98 O M).f0) != 46)=true:=bne_iff_ne.mpr c40;by_cases c60:((rd_T98 O M).f0)=42
      ·
       rw [if_pos c60] at H;have c60b0:(((rd_T98 O M).f0) == 42)=true:=beq_iff_eq.mpr c60;have c60b1:(((rd_T98 O M).f0) != 42)=false:=bne_eq_false_iff_eq.mpr c60;clear c60;by_cases c61:0 < (((rd_T98 O M).f1).length:Int)
       ·
        rw [if_pos c61] at H;have c61b0:decide (0 < (((rd_T98 O M).f1).length:Int))=true:=decide_eq_true c61;have c61b1:decide (0 < ((rd_T98 O M).f1).length)=true:=decide_eq_true (by omega);clear c61;replace H:=Option.bind_eq_some_iff.mp H;obtain ⟨a0,F7,H⟩:=H;(try dsimp only at H);have U6:=mk0 F7;clear F7;by_cases c63:0 < (b5.length:Int)
        ·
         rw [if_pos c63] at H;have c63b0:decide (0 < (b5.length:Int))=true:=decide_eq_true c63;have c63b1:decide (0 < b5.length)=true:=decide_eq_true (by omega);clear c63;obtain ⟨v7,j8⟩:∃ y_:List Bool,y_=(b5.set (0:Int).toNat true):=⟨_,rfl⟩;(replace H:(bellpullref05_Images.l1 k v7 a0 true)=some r:=by first|(rw [j8];with_reducible exact H)|(have b6:=(Option.bind_some _ _).symm.trans H;rw [j8];with_reducible exact b6)|(have b6:=(Option.bind_some _ _).symm.trans H;with_reducible exact b6)|with_reducible exact H|(rw [j8];exact H)|exact H);(have I9:=mk0 j8;clear j8;have H':=mk0 H;clear H;go_enter Try.func62,Try.ntmps62;try go_wp2);replace J:=hdr J;have e2:0 ≤ (M:Int):=of_decide_eq_true (by first|(with_reducible assumption)|assumption);have e3:M < (O.length:Int):=of_decide_eq_true (by first|(with_reducible assumption)|assumption);obtain ⟨a4,a3,U,h7,a8,a9,d3,d4⟩:=at_T98 j2.1 M e2 e3;have D:=a9;have E:=a8;cases h7;replace a8:=bd_ J a8;replace a9:=bd_ J a9;have d1:=mk0 d4;have m4:=mk0 d3;clear d4 d3;replace e2:=eq_true e2;replace e3:=eq_true e3;refine start_ (n:=8) (S:=fun w'=>w'.cell? (a4.add ((M).toNat * 2))=some (.int .u8 ((rd_T98 O M).f0))∧w'.cell? ⟨(a4.add ((M).toNat * 2)).block,(a4.add ((M).toNat * 2)).off + 1,none⟩=some (.slice a3 ((rd_T98 O M).f1).length U)) (ds:=[]) #[n_,n_,n_,n_,n_,n_,n_,n_] (by kernel_rfl) rfl rfl ⟨(bd_ J E),(bd_ J D)⟩ (fun L=>?_);refine with_tabW bellpullref05_Images.tab1 bellpullref05_Images.bits1 (fun Z g2=>?_);generalize w.drew=Bl at J d1 a8 a9 L ⊢;refine pure_ (i:=0) (N:=some 14) (v:=?_) (a':=?_) #[y_,n_,n_,n_,n_,n_,n_,n_] rfl rfl (any_of Z.1 (by kernel_rfl)) (fun _ _ _ h=>h) (Or.inl ⟨by rfl,?_⟩) ?_ ?_;rotate_left;(· intro w';go_simp;with_reducible rfl);rotate_left;(· simp only [Act.put,s0_,s1_,s2_,i64_w,i32_w];rfl);refine pure_ (i:=1) (N:=some 15) (v:=?_) (a':=?_) #[y_,y_,n_,n_,n_,n_,n_,n_] rfl rfl (any_of Z.1 (by kernel_rfl)) (fun _ _ _ h=>h) (Or.inl ⟨by rfl,?_⟩) ?_ ?_;rotate_left;(· intro w';go_simp;with_reducible rfl);rotate_left;(· simp only [Act.put,s0_,s1_,s2_,i64_w,i32_w];rfl);refine pure_ (i:=2) (N:=some 16) (v:=?_) (a':=?_) #[y_,y_,y_,n_,n_,n_,n_,n_] rfl rfl (any_of Z.1 (by kernel_rfl)) (fun _ _ _ h=>h) (Or.inl ⟨by rfl,?_⟩) ?_ ?_;rotate_left;(· intro w';go_simp;with_reducible rfl);rotate_left;(· simp only [Act.put,s0_,s1_,s2_,i64_w,i32_w];rfl);refine take_ (i:=3) (N:=some 17) (v:=?_) (a':=?_) #[y_,y_,y_,y_,n_,n_,n_,n_] rfl rfl (take_ofW Z.1 g2.1 (by kernel_rfl)) (fun _ _ _ h=>h) (Or.inl ⟨by rfl,?_⟩) L ?_ ?_;rotate_left;(· rintro w' ⟨s0,s1⟩;go_simp;with_reducible rfl);rotate_left;(· simp only [Act.put,s0_,s1_,s2_,i64_w,i32_w];rfl);refine join_ (σ:=Value × Nat) 1 #[y_,y_,y_,y_,y_,y_,y_,n_] (fun s_=>[(18,s_.1),(5,.pointer (some ⟨s_.2,0,none⟩))]) (fun s_ w'=>(w'.cell? (a4.add ((M).toNat * 2))=some (.int .u8 ((rd_T98 O M).f0))∧w'.cell? ⟨(a4.add ((M).toNat * 2)).block,(a4.add ((M).toNat * 2)).off + 1,none⟩=some (.slice a3 ((rd_T98 O M).f1).length U))∧(Kd.R Kd.bool 4 w' w.heap.size (fun _=>True) s_.1 b5)∧(w'.heap[s_.2]?=some (.cells #[.int .u8 ((rd_T98 O M).f0),.slice a3 ((rd_T98 O M).f1).length U] 98 (0,0)))∧(w.heap.size ≤ s_.2)∧(w.heap.size ≤ s_.2)∧(Below w.heap.size w w')) ?_ ?_;rotate_left;(· intro hCont;refine two_ (i:=4) (j:=5) (Ni:=some 18) (Nj:=some 5) #[y_,y_,y_,y_,y_,n_,n_,n_] #[y_,y_,y_,y_,n_,y_,n_,n_] rfl rfl rfl rfl (two_of Z.1 (by kernel_rfl)) (by decide) (by decide) (fun K hK=>?_) (fun K hK=>?_);(· skip;refine Kd.R_make_step Kd.bool _ 4 (by rfl) (N:=18) rfl 99 _ _ rfl 729 rfl rfl Try.underlying99 (.bool false) 1 info4 rfl (by decide) (by omega) false (ok:=fun _=>True) (okp:=fun _=>True) rfl (fun _ hk=>hk) trivial (by omega) (by omega) (Below.refl _ _) (Nat.le_refl _) ?_;intro b7 U7 o6 hb hg_ b9;clear hg_ b9;(first|rw [← b8.1] at o6|(simp only [Int.reduceToNat] at o6;rw [← b8.1] at o6));have Q:=mk0 (Kd.R_lower o6 (below_size J.1));replace J:=bst J hb;clear hb o6;refine hK.out _ _ ⟨(bd_ J E),(bd_ J D)⟩ (fun L=>?_);clear hK K;refine norm_ (a':=?_) ?_ ?_;rotate_left;(· show Act.put _ (some 18) _=_;simp only [Act.put,s0_,s1_,s2_,i64_w,i32_w];rfl);refine one_ (i:=5) (N:=some 5) #[y_,y_,y_,y_,y_,y_,n_,n_] rfl rfl (one_of Z.1 (by kernel_rfl)) (by decide) (fun K hK=>?_);refine box_step ?hg (N:=5) ?hd (cs:=#[.int .u8 0,.slice none 0 0]) (t:=98) ?hr ?_;(case hd=>rfl);(case hg=>rfl);(case hr=>first|(go_simp;done)|(go_simp;rfl));intro I hg Bm c8 hb;have F:=mk0 (c8);have B:=szw hg J;have V:=szw hg J;replace Q:=rbl Q hb;replace J:=bst J hb;clear hb c8 hg;refine hK.out _ _ ⟨(bd_ J E),(bd_ J D)⟩ (fun L=>?_);clear hK K;refine norm_ (a':=?_) ?_ ?_;rotate_left;(· show Act.put _ (some 5) _=_;simp only [Act.put,s0_,s1_,s2_,i64_w,i32_w];rfl);refine one_ (i:=6) (N:=none) #[y_,y_,y_,y_,y_,y_,y_,n_] rfl rfl (one_of Z.1 (by kernel_rfl)) (by decide) (fun K hK=>?_);have Q2:=q0_ F;have J0:=blk_frozen F.1 0;have Q3:=q1_ F;have J1:=blk_frozen F.1 1;refine skip_ (w1:=?_) (by rfl) rfl ?_ ?_;rotate_left;(· go_simp;rfl);refine hK.out _ _ ⟨((cell_far (p:=⟨I,_,none⟩) (by first|exact (by first|exact nb_ E B.1|exact nc_ E B.1)|(rw [add_block];exact (by first|exact nb_ E B.1|exact nc_ E B.1))|(show (Addr.add _ _).block ≠ _;rw [add_block];exact (by first|exact nb_ E B.1|exact nc_ E B.1))|(dsimp only;exact (by first|exact nb_ E B.1|exact nc_ E B.1))) _).trans (((cell_far (p:=⟨I,_,none⟩) (by first|exact (by first|exact nb_ E B.1|exact nc_ E B.1)|(rw [add_block];exact (by first|exact nb_ E B.1|exact nc_ E B.1))|(show (Addr.add _ _).block ≠ _;rw [add_block];exact (by first|exact nb_ E B.1|exact nc_ E B.1))|(dsimp only;exact (by first|exact nb_ E B.1|exact nc_ E B.1))) _).trans (L.1)))),((cell_far (p:=⟨I,_,none⟩) (by first|exact (by first|exact nb_ D B.1|exact nc_ D B.1)|(rw [add_block];exact (by first|exact nb_ D B.1|exact nc_ D B.1))|(show (Addr.add _ _).block ≠ _;rw [add_block];exact (by first|exact nb_ D B.1|exact nc_ D B.1))|(dsimp only;exact (by first|exact nb_ D B.1|exact nc_ D B.1))) _).trans (((cell_far (p:=⟨I,_,none⟩) (by first|exact (by first|exact nb_ D B.1|exact nc_ D B.1)|(rw [add_block];exact (by first|exact nb_ D B.1|exact nc_ D B.1))|(show (Addr.add _ _).block ≠ _;rw [add_block];exact (by first|exact nb_ D B.1|exact nc_ D B.1))|(dsimp only;exact (by first|exact nb_ D B.1|exact nc_ D B.1))) _).trans (L.2))))⟩ (fun L=>?_);clear hK K;exact norm_ (by simp only [putAll,Act.put,s0_,s1_,s2_]) (hCont (b7,I) _ ⟨L,(by (with_reducible repeat (first|apply Kd.R_alloc|apply Kd.R_drewN|apply Kd.R_drew));exact Kd.R_mono (Kd.R_far (p:=⟨I,1,none⟩) (Kd.R_far (p:=⟨I,0,none⟩) (Kd.R_types Q.1 F.1 (by decide)) (fun _ hk=>hk.2) (.int .u8 ((rd_T98 O M).f0))) (fun _ hk=>hk.2) (.slice a3 ((rd_T98 O M).f1).length U)) (fun _ hk=>trivial)),(by refine blk_put (cs:=#[.int .u8 ((rd_T98 O M).f0),.slice none 0 0]) ?_ 1 _ rfl;refine blk_put (cs:=#[.int .u8 0,.slice none 0 0]) ?_ 0 _ rfl;exact F.1),B.1,V.1,(by repeat (with_reducible first|exact J.1|refine below_set ?_ V.1))⟩));· skip;refine box_step ?hg (N:=5) ?hd (cs:=#[.int .u8 0,.slice none 0 0]) (t:=98) ?hr ?_;(case hd=>rfl);(case hg=>rfl);(case hr=>first|(go_simp;done)|(go_simp;rfl));intro I hg U7 c8 hb;have F:=mk0 (c8);have B:=szw hg J;have V:=szw hg J;replace J:=bst J hb;clear hb c8 hg;refine hK.out _ _ ⟨(bd_ J E),(bd_ J D)⟩ (fun L=>?_);clear hK K;refine norm_ (a':=?_) ?_ ?_;rotate_left;(· show Act.put _ (some 5) _=_;simp only [Act.put,s0_,s1_,s2_,i64_w,i32_w];rfl);refine two_ (i:=4) (j:=6) (Ni:=some 18) (Nj:=none) #[y_,y_,y_,y_,y_,y_,n_,n_] #[y_,y_,y_,y_,n_,y_,y_,n_] rfl rfl rfl rfl (two_of Z.1 (by kernel_rfl)) (by decide) (by decide) (fun K hK=>?_) (fun K hK=>?_);(· skip;refine Kd.R_make_step Kd.bool _ 4 (by rfl) (N:=18) rfl 99 _ _ rfl 729 rfl rfl Try.underlying99 (.bool false) 1 info4 rfl (by decide) (by omega) false (ok:=fun _=>True) (okp:=fun _=>True) rfl (fun _ hk=>hk) trivial (by omega) (by omega) (Below.refl _ _) (Nat.le_refl _) ?_;intro b7 Bn o7 hb hg_ b9;clear hg_ b9;(first|rw [← b8.1] at o7|(simp only [Int.reduceToNat] at o7;rw [← b8.1] at o7));have Q:=mk0 (Kd.R_lower o7 (below_size J.1));replace F:=bkb F hb;replace J:=bst J hb;clear hb o7;refine hK.out _ _ ⟨(bd_ J E),(bd_ J D)⟩ (fun L=>?_);clear hK K;refine norm_ (a':=?_) ?_ ?_;rotate_left;(· show Act.put _ (some 18) _=_;simp only [Act.put,s0_,s1_,s2_,i64_w,i32_w];rfl);refine one_ (i:=6) (N:=none) #[y_,y_,y_,y_,y_,y_,y_,n_] rfl rfl (one_of Z.1 (by kernel_rfl)) (by decide) (fun K hK=>?_);have Q2:=q0_ F;have J0:=blk_frozen F.1 0;have Q3:=q1_ F;have J1:=blk_frozen F.1 1;refine skip_ (w1:=?_) (by rfl) rfl ?_ ?_;rotate_left;(· go_simp;rfl);refine hK.out _ _ ⟨((cell_far (p:=⟨I,_,none⟩) (by first|exact (by first|exact nb_ E B.1|exact nc_ E B.1)|(rw [add_block];exact (by first|exact nb_ E B.1|exact nc_ E B.1))|(show (Addr.add _ _).block ≠ _;rw [add_block];exact (by first|exact nb_ E B.1|exact nc_ E B.1))|(dsimp only;exact (by first|exact nb_ E B.1|exact nc_ E B.1))) _).trans (((cell_far (p:=⟨I,_,none⟩) (by first|exact (by first|exact nb_ E B.1|exact nc_ E B.1)|(rw [add_block];exact (by first|exact nb_ E B.1|exact nc_ E B.1))|(show (Addr.add _ _).block ≠ _;rw [add_block];exact (by first|exact nb_ E B.1|exact nc_ E B.1))|(dsimp only;exact (by first|exact nb_ E B.1|exact nc_ E B.1))) _).trans (L.1)))),((cell_far (p:=⟨I,_,none⟩) (by first|exact (by first|exact nb_ D B.1|exact nc_ D B.1)|(rw [add_block];exact (by first|exact nb_ D B.1|exact nc_ D B.1))|(show (Addr.add _ _).block ≠ _;rw [add_block];exact (by first|exact nb_ D B.1|exact nc_ D B.1))|(dsimp only;exact (by first|exact nb_ D B.1|exact nc_ D B.1))) _).trans (((cell_far (p:=⟨I,_,none⟩) (by first|exact (by first|exact nb_ D B.1|exact nc_ D B.1)|(rw [add_block];exact (by first|exact nb_ D B.1|exact nc_ D B.1))|(show (Addr.add _ _).block ≠ _;rw [add_block];exact (by first|exact nb_ D B.1|exact nc_ D B.1))|(dsimp only;exact (by first|exact nb_ D B.1|exact nc_ D B.1))) _).trans (L.2))))⟩ (fun L=>?_);clear hK K;exact norm_ (by simp only [putAll,Act.put,s0_,s1_,s2_]) (hCont (b7,I) _ ⟨L,(by (with_reducible repeat (first|apply Kd.R_alloc|apply Kd.R_drewN|apply Kd.R_drew));exact Kd.R_mono (Kd.R_far (p:=⟨I,1,none⟩) (Kd.R_far (p:=⟨I,0,none⟩) (Kd.R_types Q.1 F.1 (by decide)) (fun _ hk=>hk.2) (.int .u8 ((rd_T98 O M).f0))) (fun _ hk=>hk.2) (.slice a3 ((rd_T98 O M).f1).length U)) (fun _ hk=>trivial)),(by refine blk_put (cs:=#[.int .u8 ((rd_T98 O M).f0),.slice none 0 0]) ?_ 1 _ rfl;refine blk_put (cs:=#[.int .u8 0,.slice none 0 0]) ?_ 0 _ rfl;exact F.1),B.1,V.1,(by repeat (with_reducible first|exact J.1|refine below_set ?_ V.1))⟩));· skip;have Am:=q0_ F;have X8:=blk_frozen F.1 0;have An:=q1_ F;have X9:=blk_frozen F.1 1;refine skip_ (w1:=?_) (by rfl) rfl ?_ ?_;rotate_left;(· go_simp;rfl);refine hK.out _ _ ⟨((cell_far (p:=⟨I,_,none⟩) (by first|exact (by first|exact nb_ E B.1|exact nc_ E B.1)|(rw [add_block];exact (by first|exact nb_ E B.1|exact nc_ E B.1))|(show (Addr.add _ _).block ≠ _;rw [add_block];exact (by first|exact nb_ E B.1|exact nc_ E B.1))|(dsimp only;exact (by first|exact nb_ E B.1|exact nc_ E B.1))) _).trans (((cell_far (p:=⟨I,_,none⟩) (by first|exact (by first|exact nb_ E B.1|exact nc_ E B.1)|(rw [add_block];exact (by first|exact nb_ E B.1|exact nc_ E B.1))|(show (Addr.add _ _).block ≠ _;rw [add_block];exact (by first|exact nb_ E B.1|exact nc_ E B.1))|(dsimp only;exact (by first|exact nb_ E B.1|exact nc_ E B.1))) _).trans (L.1)))),((cell_far (p:=⟨I,_,none⟩) (by first|exact (by first|exact nb_ D B.1|exact nc_ D B.1)|(rw [add_block];exact (by first|exact nb_ D B.1|exact nc_ D B.1))|(show (Addr.add _ _).block ≠ _;rw [add_block];exact (by first|exact nb_ D B.1|exact nc_ D B.1))|(dsimp only;exact (by first|exact nb_ D B.1|exact nc_ D B.1))) _).trans (((cell_far (p:=⟨I,_,none⟩) (by first|exact (by first|exact nb_ D B.1|exact nc_ D B.1)|(rw [add_block];exact (by first|exact nb_ D B.1|exact nc_ D B.1))|(show (Addr.add _ _).block ≠ _;rw [add_block];exact (by first|exact nb_ D B.1|exact nc_ D B.1))|(dsimp only;exact (by first|exact nb_ D B.1|exact nc_ D B.1))) _).trans (L.2))))⟩ (fun L=>?_);clear hK K;refine one_ (i:=4) (N:=some 18) #[y_,y_,y_,y_,y_,y_,y_,n_] rfl rfl (one_of Z.1 (by kernel_rfl)) (by decide) (fun K hK=>?_);refine Kd.R_make_step Kd.bool _ 4 (by rfl) (N:=18) rfl 99 _ _ rfl 729 rfl rfl Try.underlying99 (.bool false) 1 info4 rfl (by decide) (by omega) false (ok:=fun _=>True) (okp:=fun _=>True) rfl (fun _ hk=>hk) trivial (by omega) (by omega) (Below.refl _ _) (Nat.le_refl _) ?_;intro b7 Bo o8 hb hg_ b9;clear hg_ b9;(first|rw [← b8.1] at o8|(simp only [Int.reduceToNat] at o8;rw [← b8.1] at o8));have Q:=mk0 (Kd.R_lower o8 (below_size (by repeat (with_reducible first|exact J.1|refine below_set ?_ V.1))));replace F:=mk0 (blk_below (g:=I) (o:=.cells #[.int .u8 ((rd_T98 O M).f0),.slice a3 ((rd_T98 O M).f1).length U] 98 (0,0)) (by refine blk_put (cs:=#[.int .u8 ((rd_T98 O M).f0),.slice none 0 0]) ?_ 1 _ rfl;refine blk_put (cs:=#[.int .u8 0,.slice none 0 0]) ?_ 0 _ rfl;exact F.1) hb);replace J:=mk0 (below_step (by repeat (with_reducible first|exact J.1|refine below_set ?_ V.1)) hb);clear hb o8;refine hK.out _ _ ⟨(bd_ J E),(bd_ J D)⟩ (fun L=>?_);clear hK K;refine norm_ (a':=?_) ?_ ?_;rotate_left;(· show Act.put _ (some 18) _=_;simp only [Act.put,s0_,s1_,s2_,i64_w,i32_w];rfl);exact norm_ (by simp only [putAll,Act.put,s0_,s1_,s2_]) (hCont (b7,I) _ ⟨L,Q.1,F.1,B.1,V.1,J.1⟩));clear J;rintro ⟨b7,I⟩ A4 f9;(try dsimp only at f9);replace f9:=h_ (m4_ l_) f9;obtain ⟨n5,Q,F,B,V,J⟩:=f9;have L:A4.cell? (a4.add ((M).toNat * 2))=some (.int .u8 ((rd_T98 O M).f0))∧A4.cell? ⟨(a4.add ((M).toNat * 2)).block,(a4.add ((M).toNat * 2)).off + 1,none⟩=some (.slice a3 ((rd_T98 O M).f1).length U):=n5;refine norm_ (a':=?_) ?_ ?_;rotate_left;(· simp only [putAll,Act.put,s0_,s1_,s2_];rfl);refine pure_ (i:=7) (N:=some 6) (v:=?_) (a':=?_) #[y_,y_,y_,y_,y_,y_,y_,y_] rfl rfl (any_of Z.1 (by kernel_rfl)) (fun _ _ _ h=>h) (Or.inl ⟨by rfl,?_⟩) ?_ ?_;rotate_left;(· intro w';go_simp;with_reducible rfl);rotate_left;(· simp only [Act.put,s0_,s1_,s2_,i64_w,i32_w];rfl);refine done_ (done_of Z.1 (by kernel_rfl)) ?_;have q2:A4.cell? ⟨I,0,none⟩=some (.int .u8 ((rd_T98 O M).f0)):=q0_ F;have q3:A4.cell? ⟨I,1,none⟩=some (.slice a3 ((rd_T98 O M).f1).length U):=q1_ F;have q4:=blk_frozen F.1 0;have q7:=blk_frozen F.1 1;have o9:0 ≤ (0:Int):=(by omega);(have p0:0 < (((rd_T98 O M).f1).length:Int):=of_decide_eq_true (by first|(with_reducible assumption)|assumption);obtain ⟨g4,Q4,g1⟩:=Kd.at_int d1.1 0 o9 p0;cases Q4;have Y0:(0 < ((rd_T98 O M).f1).length)=True:=eq_true (by omega);(try rw [show ((0:Int)).toNat=0 from rfl] at g1);(try rw [Addr.add_zero'] at g1);replace g1:=bd_ J g1;replace o9:=eq_true o9;replace p0:=eq_true p0;try go_wp2_with (first|((with_reducible refine gate_callee (f:=62) rfl ?_);refine goesL_ (some 82) rfl rfl Try.func62 (by kernel_rfl) rfl #[.slice (some a4) O.length c0,.int .i64 (rd ((rd_T98 O M).f1) 0)] rfl (by (try simp only [m0_,m1_,m2_]);first|done|rfl|(simp only [l0_,l1_];rfl)) ?_;(with_reducible refine (ih k (by omega) _ _ O (rd ((rd_T98 O M).f1) 0) a0 _ ?side1 ?side2 U6.1).mono ?_);(case side1=>repeat (first|exact (Kd.C_below j2.1 J.1)|(with_reducible refine Kd.C_alloc ?_ _)|(with_reducible refine Kd.C_drewN ?_ _)|(with_reducible refine Kd.C_drew ?_)));(case side2=>exact u0.1);rintro e M3 ⟨r6,rfl,c1,hb⟩;refine ⟨_,rfl,?_⟩;have r7:=mk0 (Kd.R_lower (Kd.R_new' c1 (Kd.R_lt Q.1)) (below_size J.1));replace Q:=mk0 (Kd.R_elder' Q.1 (Kd.R_base c1) hb);replace F:=bkb F hb;replace J:=bst J hb;(try clear hb);(try clear hk);(try clear c1);have p1:0 ≤ (0:Int):=(by omega);have p3:(0:Int) < ((b5.length:Int):Int):=of_decide_eq_true (by first|(with_reducible assumption)|assumption);have F8:(0 < b5.length)=True:=eq_true (by omega);obtain ⟨a2,b1,F9,G0,Q5,Ao,G1⟩:=Kd.R_form Q.1 (by omega);(first|cases F9|(injection F9 with ea_ en_ ec_;(first|subst ea_|(injection ea_ with ea_;subst ea_));subst ec_;clear en_));have i2:=mk0 G0;have Ap:=mk0 G1;clear G0 Q5 G1;obtain ⟨j9,u3⟩:=Kd.R_celln false Q.1 (0:Int) p1 p3;(try rw [show ((0:Int)).toNat=0 from rfl] at j9);(try simp only [Nat.reduceMul,Nat.zero_mul,Nat.zero_add,Nat.reduceAdd] at j9);(try rw [show ((0:Int)).toNat=0 from rfl] at u3);(try simp only [Nat.reduceMul,Nat.zero_mul,Nat.zero_add,Nat.reduceAdd] at u3);replace p1:=eq_true p1;replace p3:=eq_true p3;have n_:=mk0 (Kd.R_mono (ok':=(fun k_=>some k_ ≠ (r6:Value).ownBlock)) Q.1 (fun k_ hk=>hk.2));clear Q;have Q:=n_;clear n_;obtain ⟨A5,A6⟩:=Kd.R_celln false Q.1 (0:Int) (by omega) (of_decide_eq_true (by first|(with_reducible assumption)|assumption));(try simp only [Int.reduceToNat,Int.toNat_zero,Int.toNat_ofNat,Nat.reduceMul,Nat.zero_mul,Nat.zero_add] at A5 A6);(try rw [show ((0:Int)).toNat=0 from rfl] at A5);(try rw [show ((0:Int)).toNat=0 from rfl] at A6);have v8:=Kd.R_putg Q.1 (0:Int) true)|((with_reducible refine gate_store (t:=4) (p:=84) rfl ?_);refine store_event (t:=4) (p:=84) (v:=?vo_w75) (w1:=(M3.setCell ⟨a2,(0:Int).toNat,none⟩ (.bool true))) ?hg ?ho ?hn ?hr ?_;(case ho=>rfl);(case hg=>rfl);(case hn=>rfl);(case hr=>first|(go_simp;done)|(go_simp;rfl));intro G2 hw;have hg:M3.grownBy G2 (some a2):=(by rw [hw];exact v8.2);have hp_:Kd.R Kd.bool 4 G2 w.heap.size (fun k_=>some k_ ≠ (r6:Value).ownBlock) (.slice (some ⟨a2,0,none⟩) b5.length b1) v7:=(by rw [hw,I9.1];exact v8.1);clear v8;replace F:=mk0 (blk_grown (g:=I) (o:=.cells #[.int .u8 ((rd_T98 O M).f0),.slice (some g4) ((rd_T98 O M).f1).length U] 98 (0,0)) F.1 hg (Kd.R_ne Q.1 F.1 (by decide)));replace Q:=mk0 (hp_);replace r7:=mk0 (Kd.R_after (v:=(.slice (some ⟨a2,0,none⟩) b5.length b1)) (v1:=(.slice (some ⟨a2,0,none⟩) b5.length b1)) (ok:=(fun _=>True)) r7.1 hg (.inl rfl));replace J:=mk0 ((by rw [hw];exact below_set (J.1) i2.1:Below w.heap.size w G2));clear hg hw hp_)));go_loopg [11] k (fun kq G3 w'=>∃ (b3:List Bool) (m7:Bool),G3=.bool m7∧Aside0 (bellpullref05_Images.l1 kq b3 a0 m7=some r)∧Aside0 (kq ≤ k)∧Aside0 (Kd.R Kd.bool 4 w' w.heap.size (fun k_=>some k_ ≠ (r6:Value).ownBlock) (.slice (some ⟨a2,0,none⟩) b5.length b1) b3)∧Aside0 (Kd.R Kd.bool 4 w' w.heap.size (fun k_=>some k_ ≠ ((.slice (some ⟨a2,0,none⟩) b5.length b1):Value).ownBlock) r6 a0)∧Aside0 (w'.heap[I]?=some (.cells #[.int .u8 ((rd_T98 O M).f0),(.slice (some g4) ((rd_T98 O M).f1).length U)] 98 (0,0)))∧Aside0 (Below w.heap.size w w'));case atStart=>exact ⟨(v7),(true),(by first|rfl|(simp;done)|(simp [*];done)),H',⟨Nat.le_refl _⟩,⟨by (with_reducible repeat (first|apply Kd.R_alloc|apply Kd.R_drewN|apply Kd.R_drew));exact Q.1⟩,⟨by (with_reducible repeat (first|apply Kd.R_alloc|apply Kd.R_drewN|apply Kd.R_drew));exact Kd.R_mono r7.1 (fun _ hk=>hk.2)⟩,⟨by exact F.1⟩,⟨by repeat (first|(with_reducible first|exact J.1|apply below_alloc|apply pw_below_drewN|apply below_drew1|refine below_set ?_ V.1)|exact J.1)⟩⟩
         case round =>
          (clear H';try clear p2);(try clear c4);(try clear c5);(try clear p5);(try clear q5);(try clear hx5);(try clear qi5);(try clear c6);(try clear p6);(try clear q6);(try clear hx6);(try clear qi6);(try clear hf6);(try clear c9);(try clear c40);(try clear c40b0);(try clear c40b1);(try clear c41);(try clear c43);(try clear c58);(try clear p58);(try clear q58);(try clear hx58);(try clear p59);(try clear q59);(try clear hx59);(try clear qi59);(try clear c60);(try clear c60b0);(try clear c60b1);(try clear p60);(try clear q60);(try clear hx60);(try clear qi60);(try clear c61);(try clear c61b0);(try clear c61b1);(try clear p61);(try clear q61);(try clear hx61);(try clear qi61);(try clear c62);(try clear c63);(try clear c63b0);(try clear c63b1);(try clear p1);(try clear p3);(try clear hx64);(try clear F8);(try clear hf64);(try clear p8);(try clear p9);(try clear q2);(try clear q3);(try clear q0);(try clear q1);(try clear q4);(try clear q7);(try clear a8);(try clear a9);(try clear e6);(try clear e7);(try clear g1);(try clear j9);(try clear e2);(try clear o2);(try clear o4);(try clear o9);(try clear p1);(try clear e3);(try clear o3);(try clear o5);(try clear p0);try clear p3
          obtain ⟨b3,m7,rfl,HA,g0,Y,b4,F,J⟩:=hrel;have b0:=(Kd.R_reads' Y.1).1;rw [b0] at Y;(try simp only [b0]);(try simp only [b0] at F);(try simp only [b0] at b4);cases gk with
          | zero=>exact absurd HA.1 (by simp [bellpullref05_Images.l1])
          | succ k1 =>
           have H:=HA.1;clear HA;simp only [bellpullref05_Images.l1] at H;by_cases u4:m7=true
           ·
            (subst u4;have H1:((bellpullref05_joined.f k1 b3 a0).bind fun X=>(bellpullref05_Images.l2 k1 b3 a0 false X 0))=some r:=by rw [if_pos rfl] at H;exact H);clear H;have H:=H1;clear H1;replace H:=Option.bind_eq_some_iff.mp H;obtain ⟨X,G4,H⟩:=H;(try dsimp only at H);have U8:=mk0 G4;clear G4;have H':=mk0 H;clear H;obtain ⟨f2,f3,Q6⟩:=Kd.R_slice b4.1;subst Q6;go_wp2_with (first|((with_reducible refine gate_callee (f:=92) rfl ?_);refine goesL_ (some 88) rfl rfl Try.func92 (by kernel_rfl) rfl #[.slice (some ⟨a2,0,none⟩) b3.length b1,.slice f2 a0.length f3] rfl (by (try simp only [m0_,m1_,m2_]);first|done|rfl|(simp only [l0_,l1_];rfl)) ?_;(with_reducible refine (bellpullref05_joined.calls k1 _ _ b3 _ _ a0 X _ ?side1 ?side2 ?side3 ?side4 U8.1).mono ?_);(case side1=>repeat (first|exact (Kd.R_reads' Y.1).2.2|(with_reducible refine Kd.C_alloc ?_ _)|(with_reducible refine Kd.C_drewN ?_ _)|(with_reducible refine Kd.C_drew ?_)));(case side2=>exact (Kd.R_reads' Y.1).2.1);(case side3=>repeat (first|exact (Kd.R_reads' b4.1).2.2|(with_reducible refine Kd.C_alloc ?_ _)|(with_reducible refine Kd.C_drewN ?_ _)|(with_reducible refine Kd.C_drew ?_)));(case side4=>exact (Kd.R_reads' b4.1).2.1);rintro e Bp ⟨p4,rfl,c1,hb⟩;refine ⟨_,rfl,?_⟩;have J2:=mk0 (Kd.R_lower (Kd.R_new' (Kd.R_new' c1 (Kd.R_lt Y.1)) (Kd.R_lt b4.1)) (below_size J.1));replace Y:=mk0 (Kd.R_elder' Y.1 (Kd.R_base c1) hb);replace b4:=mk0 (Kd.R_elder' b4.1 (Kd.R_base c1) hb);replace F:=bkb F hb;replace J:=bst J hb;(try clear hb);(try clear c1)));go_loopg [11,13] k1 (fun kq G3 U9 w'=>∃ (T:List Bool) (l3:Bool) (G:Int),G3=.bool l3∧U9=.int .i64 G∧Aside0 (bellpullref05_Images.l2 kq T a0 l3 X G=some r)∧Aside0 (kq ≤ k1)∧Aside0 (Kd.R Kd.bool 4 w' w.heap.size (fun k_=>some k_ ≠ ((.slice f2 a0.length f3):Value).ownBlock∧some k_ ≠ (p4:Value).ownBlock) (.slice (some ⟨a2,0,none⟩) b3.length b1) T)∧Aside0 (Kd.R Kd.bool 4 w' w.heap.size (fun k_=>some k_ ≠ ((.slice (some ⟨a2,0,none⟩) b3.length b1):Value).ownBlock∧some k_ ≠ (p4:Value).ownBlock) (.slice f2 a0.length f3) a0)∧Aside0 (Kd.R Kd.bool 4 w' w.heap.size (fun k_=>some k_ ≠ ((.slice (some ⟨a2,0,none⟩) b3.length b1):Value).ownBlock∧some k_ ≠ ((.slice f2 a0.length f3):Value).ownBlock) p4 X)∧Aside0 (w'.heap[I]?=some (.cells #[.int .u8 ((rd_T98 O M).f0),(.slice (some g4) ((rd_T98 O M).f1).length U)] 98 (0,0)))∧Aside0 (Below w.heap.size w w'));case atStart=>exact ⟨(b3),(false),(0),(by first|rfl|(simp;done)|(simp [*];done)),(by first|rfl|(simp;done)|(simp [*];done)),H',⟨Nat.le_refl _⟩,⟨by (try simp only [b0]);(with_reducible repeat (first|apply Kd.R_alloc|apply Kd.R_drewN|apply Kd.R_drew));exact Y.1⟩,⟨by (try simp only [b0]);(with_reducible repeat (first|apply Kd.R_alloc|apply Kd.R_drewN|apply Kd.R_drew));exact b4.1⟩,⟨by (try simp only [b0]);(with_reducible repeat (first|apply Kd.R_alloc|apply Kd.R_drewN|apply Kd.R_drew));exact Kd.R_mono J2.1 (fun _ hk=>⟨hk.1.2,hk.2⟩)⟩,⟨by (try simp only [b0]);exact F.1⟩,⟨by repeat (first|(with_reducible first|exact J.1|apply below_alloc|apply pw_below_drewN|apply below_drew1|refine below_set ?_ V.1)|exact J.1)⟩⟩
            case round =>
             (clear H';try clear p2);(try clear c4);(try clear c5);(try clear p5);(try clear q5);(try clear hx5);(try clear qi5);(try clear c6);(try clear p6);(try clear q6);(try clear hx6);(try clear qi6);(try clear hf6);(try clear c7);(try clear c9);(try clear c40);(try clear c40b0);(try clear c40b1);(try clear c41);(try clear c43);(try clear c58);(try clear p58);(try clear q58);(try clear hx58);(try clear p59);(try clear q59);(try clear hx59);(try clear qi59);(try clear c60);(try clear c60b0);(try clear c60b1);(try clear p60);(try clear q60);(try clear hx60);(try clear qi60);(try clear c61);(try clear c61b0);(try clear c61b1);(try clear p61);(try clear q61);(try clear hx61);(try clear qi61);(try clear c62);(try clear c63);(try clear c63b0);(try clear c63b1);(try clear p1);(try clear p3);(try clear hx64);(try clear F8);(try clear hf64);(try clear u4);(try clear p8);(try clear p9);(try clear q2);(try clear q3);(try clear q0);(try clear q1);(try clear q4);(try clear q7);(try clear a8);(try clear a9);(try clear e6);(try clear e7);(try clear g1);(try clear j9);(try clear p2);(try clear p5);(try clear p58);(try clear e2);(try clear p59);(try clear o2);(try clear p6);(try clear p60);(try clear o4);(try clear p61);(try clear o9);(try clear p1);(try clear q5);(try clear q58);(try clear e3);(try clear q59);(try clear o3);(try clear q6);(try clear q60);(try clear o5);(try clear q61);(try clear p0);try clear p3
             obtain ⟨T,l3,G,rfl,rfl,HA,g6,Y,b4,b2,F,J⟩:=hrel;have a7:=(Kd.R_reads' Y.1).1;rw [a7] at Y;(try simp only [a7]);(try simp only [a7] at F);(try simp only [a7] at b4);(try simp only [a7] at b2);cases gk with
             | zero=>exact absurd HA.1 (by simp [bellpullref05_Images.l2])
             | succ k2 =>have H:=HA.1;clear HA;simp only [bellpullref05_Images.l2] at H;by_cases c80:G < (T.length:Int);(· rw [if_pos c80] at H;have c80b0:decide (G < (T.length:Int))=true:=decide_eq_true c80;clear c80;by_cases A7:l3=true;(· (subst A7;have H1:(if 0 ≤ G then (if rdOf false T G=true then (bellpullref05_Images.l2 k2 (T.set (G:Int).toNat true) a0 true X (wrap64 (G + 1))) else (if G < (X.length:Int) then (bellpullref05_Images.l2 k2 (T.set (G:Int).toNat (rdOf false X G)) a0 true X (wrap64 (G + 1))) else (none))) else (none))=some r:=by rw [if_pos rfl] at H;exact H);clear H;have H:=H1;clear H1;by_cases c82:0 ≤ G;(· rw [if_pos c82] at H;have c82b0:decide (0 ≤ G)=true:=decide_eq_true c82;clear c82;obtain ⟨G5,r8⟩:∃ b_:Bool,b_=(rdOf false T G):=⟨_,rfl⟩;(replace H:(if G5=true then (bellpullref05_Images.l2 k2 (T.set (G:Int).toNat true) a0 true X (wrap64 (G + 1))) else (if G < (X.length:Int) then (bellpullref05_Images.l2 k2 (T.set (G:Int).toNat (rdOf false X G)) a0 true X (wrap64 (G + 1))) else (none)))=some r:=by rw [← r8] at H;exact H);have r9:=mk0 r8;clear r8;by_cases A9:G5=true;(· (subst A9;have H1:(bellpullref05_Images.l2 k2 (T.set (G:Int).toNat true) a0 true X (wrap64 (G + 1)))=some r:=by rw [if_pos rfl] at H;exact H);clear H;have H:=H1;clear H1;obtain ⟨x0,l4⟩:∃ y_:List Bool,y_=(T.set (G:Int).toNat true):=⟨_,rfl⟩;(replace H:(bellpullref05_Images.l2 k2 x0 a0 true X (wrap64 (G + 1)))=some r:=by first|(rw [l4];with_reducible exact H)|(have b6:=(Option.bind_some _ _).symm.trans H;rw [l4];with_reducible exact b6)|(have b6:=(Option.bind_some _ _).symm.trans H;with_reducible exact b6)|with_reducible exact H|(rw [l4];exact H)|exact H);have J3:=mk0 l4;clear l4;have H':=mk0 H;clear H;have i3:0 ≤ (G:Int):=of_decide_eq_true (by first|(with_reducible assumption)|assumption);have i4:G < (T.length:Int):=of_decide_eq_true (by first|(with_reducible assumption)|assumption);obtain ⟨s4,x1,e8⟩:=Kd.at_bool (Kd.R_reads' Y.1).2.2 G i3 i4;(try rw [← r9.1] at e8);obtain rfl:(⟨a2,0,none⟩:Addr)=s4:=(by injection x1);(first|simp only [add_plain] at e8|simp only [add_at] at e8|simp only [Addr.add,Nat.zero_add] at e8|skip);replace i3:=eq_true i3;replace i4:=eq_true i4;have G6:0 ≤ (G:Int):=of_decide_eq_true (by first|(with_reducible assumption)|assumption);have G7:(G:Int) < ((T.length:Int):Int):=of_decide_eq_true (by first|(with_reducible assumption)|assumption);obtain ⟨V0,V1⟩:=Kd.R_celln false Y.1 (G:Int) G6 G7;replace G6:=eq_true G6;replace G7:=eq_true G7;have x2:=Kd.R_putg Y.1 (G:Int) true;go_wp2_with (first|((with_reducible refine gate_store (t:=4) (p:=121) rfl ?_);refine store_event (t:=4) (p:=121) (v:=?vo_w87) (w1:=(wr.setCell ⟨a2,(G:Int).toNat,none⟩ (.bool true))) ?hg ?ho ?hn ?hr ?_;(case ho=>rfl);(case hg=>rfl);(case hn=>rfl);(case hr=>first|(go_simp;done)|(go_simp;rfl));intro G8 hw;have hg:wr.grownBy G8 (some a2):=(by rw [hw];exact x2.2);have hp_:Kd.R Kd.bool 4 G8 w.heap.size (fun k_=>some k_ ≠ (.slice f2 a0.length f3:Value).ownBlock∧some k_ ≠ (p4:Value).ownBlock) (.slice (some ⟨a2,0,none⟩) T.length b1) x0:=(by rw [hw,J3.1];exact x2.1);clear x2;replace b4:=mk0 (Kd.R_after (v:=(.slice (some ⟨a2,0,none⟩) T.length b1)) (v1:=(.slice (some ⟨a2,0,none⟩) T.length b1)) (ok:=(fun k_=>some k_ ≠ (p4:Value).ownBlock)) (by (with_reducible repeat (first|apply Kd.R_alloc|apply Kd.R_drewN|apply Kd.R_drew));exact Kd.R_mono b4.1 (fun _ hk=>⟨hk.2,hk.1⟩)) hg (.inl rfl));replace b2:=mk0 (Kd.R_after (v:=(.slice (some ⟨a2,0,none⟩) T.length b1)) (v1:=(.slice (some ⟨a2,0,none⟩) T.length b1)) (ok:=(fun k_=>some k_ ≠ (.slice f2 a0.length f3:Value).ownBlock)) (by (with_reducible repeat (first|apply Kd.R_alloc|apply Kd.R_drewN|apply Kd.R_drew));exact Kd.R_mono b2.1 (fun _ hk=>⟨hk.2,hk.1⟩)) hg (.inl rfl));replace F:=mk0 (blk_grown (g:=I) (o:=.cells #[.int .u8 ((rd_T98 O M).f0),.slice (some g4) ((rd_T98 O M).f1).length U] 98 (0,0)) F.1 hg (Kd.R_ne Y.1 F.1 (by decide)));replace Y:=mk0 (hp_);replace J:=mk0 ((by rw [hw];exact below_set (J.1) i2.1:Below w.heap.size w G8));clear hg hw hp_));(try simp only [← a7]);go_roundg k2;(case measure=>have:=g0.1;have:=g6.1;omega);case rel=>exact ⟨(x0),(true),(wrap64 (G + 1)),(by first|rfl|(simp;done)|(simp [*];done)),(by first|rfl|(simp;done)|(simp [*];done)),H',⟨by have:=g0.1;have:=g6.1;omega⟩,⟨by (try simp only [b0]);(try simp only [a7]);(with_reducible repeat (first|apply Kd.R_alloc|apply Kd.R_drewN|apply Kd.R_drew));exact Y.1⟩,⟨by (try simp only [b0]);(try simp only [a7]);(with_reducible repeat (first|apply Kd.R_alloc|apply Kd.R_drewN|apply Kd.R_drew));exact Kd.R_mono b4.1 (fun _ hk=>⟨hk.2,hk.1⟩)⟩,⟨by (try simp only [b0]);(try simp only [a7]);(with_reducible repeat (first|apply Kd.R_alloc|apply Kd.R_drewN|apply Kd.R_drew));exact Kd.R_mono b2.1 (fun _ hk=>⟨hk.2,hk.1⟩)⟩,⟨by (try simp only [b0]);(try simp only [a7]);exact F.1⟩,⟨by repeat (first|(with_reducible first|exact J.1|apply below_alloc|apply pw_below_drewN|apply below_drew1|refine below_set ?_ V.1)|exact J.1)⟩⟩);· (replace A9:=Bool.eq_false_iff.mpr A9;subst A9;have H1:(if G < (X.length:Int) then (bellpullref05_Images.l2 k2 (T.set (G:Int).toNat (rdOf false X G)) a0 true X (wrap64 (G + 1))) else (none))=some r:=by rw [if_neg (show ¬ (false=true) by decide)] at H;exact H);clear H;have H:=H1;clear H1;by_cases c88:G < (X.length:Int);(· rw [if_pos c88] at H;have c88b0:decide (G < (X.length:Int))=true:=decide_eq_true c88;clear c88;obtain ⟨x3,l5⟩:∃ y_:List Bool,y_=(T.set (G:Int).toNat (rdOf false X G)):=⟨_,rfl⟩;(replace H:(bellpullref05_Images.l2 k2 x3 a0 true X (wrap64 (G + 1)))=some r:=by first|(rw [l5];with_reducible exact H)|(have b6:=(Option.bind_some _ _).symm.trans H;rw [l5];with_reducible exact b6)|(have b6:=(Option.bind_some _ _).symm.trans H;with_reducible exact b6)|with_reducible exact H|(rw [l5];exact H)|exact H);have J4:=mk0 l5;clear l5;have H':=mk0 H;clear H;have i3:0 ≤ (G:Int):=of_decide_eq_true (by first|(with_reducible assumption)|assumption);have i4:G < (T.length:Int):=of_decide_eq_true (by first|(with_reducible assumption)|assumption);obtain ⟨s4,x1,e8⟩:=Kd.at_bool (Kd.R_reads' Y.1).2.2 G i3 i4;(try rw [← r9.1] at e8);obtain rfl:(⟨a2,0,none⟩:Addr)=s4:=(by injection x1);(first|simp only [add_plain] at e8|simp only [add_at] at e8|simp only [Addr.add,Nat.zero_add] at e8|skip);replace i3:=eq_true i3;replace i4:=eq_true i4;obtain ⟨Aq,G9,Q7⟩:=Kd.R_slice b2.1;subst Q7;have x4:0 ≤ (G:Int):=of_decide_eq_true (by first|(with_reducible assumption)|assumption);have x5:G < (X.length:Int):=of_decide_eq_true (by first|(with_reducible assumption)|assumption);obtain ⟨B0,Q8,D1⟩:=Kd.at_bool (Kd.R_reads' b2.1).2.2 G x4 x5;(try rw [← r9.1] at D1);cases Q8;replace x4:=eq_true x4;replace x5:=eq_true x5;have H0:0 ≤ (G:Int):=of_decide_eq_true (by first|(with_reducible assumption)|assumption);have H2:(G:Int) < ((T.length:Int):Int):=of_decide_eq_true (by first|(with_reducible assumption)|assumption);obtain ⟨V2,V3⟩:=Kd.R_celln false Y.1 (G:Int) H0 H2;replace H0:=eq_true H0;replace H2:=eq_true H2;have x6:=Kd.R_putg Y.1 (G:Int) (rdOf false X G);go_wp2_with (first|((with_reducible refine gate_store (t:=4) (p:=121) rfl ?_);refine store_event (t:=4) (p:=121) (v:=?vo_w92) (w1:=(wr.setCell ⟨a2,(G:Int).toNat,none⟩ (.bool (rdOf false X G)))) ?hg ?ho ?hn ?hr ?_;(case ho=>rfl);(case hg=>rfl);(case hn=>rfl);(case hr=>first|(go_simp;done)|(go_simp;rfl));intro H3 hw;have hg:wr.grownBy H3 (some a2):=(by rw [hw];exact x6.2);have hp_:Kd.R Kd.bool 4 H3 w.heap.size (fun k_=>some k_ ≠ (.slice f2 a0.length f3:Value).ownBlock∧some k_ ≠ (.slice (some B0) X.length G9:Value).ownBlock) (.slice (some ⟨a2,0,none⟩) T.length b1) x3:=(by rw [hw,J4.1];exact x6.1);clear x6;replace b4:=mk0 (Kd.R_after (v:=(.slice (some ⟨a2,0,none⟩) T.length b1)) (v1:=(.slice (some ⟨a2,0,none⟩) T.length b1)) (ok:=(fun k_=>some k_ ≠ (.slice (some B0) X.length G9:Value).ownBlock)) (by (with_reducible repeat (first|apply Kd.R_alloc|apply Kd.R_drewN|apply Kd.R_drew));exact Kd.R_mono b4.1 (fun _ hk=>⟨hk.2,hk.1⟩)) hg (.inl rfl));replace b2:=mk0 (Kd.R_after (v:=(.slice (some ⟨a2,0,none⟩) T.length b1)) (v1:=(.slice (some ⟨a2,0,none⟩) T.length b1)) (ok:=(fun k_=>some k_ ≠ (.slice f2 a0.length f3:Value).ownBlock)) (by (with_reducible repeat (first|apply Kd.R_alloc|apply Kd.R_drewN|apply Kd.R_drew));exact Kd.R_mono b2.1 (fun _ hk=>⟨hk.2,hk.1⟩)) hg (.inl rfl));replace F:=mk0 (blk_grown (g:=I) (o:=.cells #[.int .u8 ((rd_T98 O M).f0),.slice (some g4) ((rd_T98 O M).f1).length U] 98 (0,0)) F.1 hg (Kd.R_ne Y.1 F.1 (by decide)));replace Y:=mk0 (hp_);replace J:=mk0 ((by rw [hw];exact below_set (J.1) i2.1:Below w.heap.size w H3));clear hg hw hp_));(try simp only [← a7]);go_roundg k2;(case measure=>have:=g0.1;have:=g6.1;omega);case rel=>exact ⟨(x3),(true),(wrap64 (G + 1)),(by first|rfl|(simp;done)|(simp [*];done)),(by first|rfl|(simp;done)|(simp [*];done)),H',⟨by have:=g0.1;have:=g6.1;omega⟩,⟨by (try simp only [b0]);(try simp only [a7]);(with_reducible repeat (first|apply Kd.R_alloc|apply Kd.R_drewN|apply Kd.R_drew));exact Y.1⟩,⟨by (try simp only [b0]);(try simp only [a7]);(with_reducible repeat (first|apply Kd.R_alloc|apply Kd.R_drewN|apply Kd.R_drew));exact Kd.R_mono b4.1 (fun _ hk=>⟨hk.2,hk.1⟩)⟩,⟨by (try simp only [b0]);(try simp only [a7]);(with_reducible repeat (first|apply Kd.R_alloc|apply Kd.R_drewN|apply Kd.R_drew));exact Kd.R_mono b2.1 (fun _ hk=>⟨hk.2,hk.1⟩)⟩,⟨by (try simp only [b0]);(try simp only [a7]);exact F.1⟩,⟨by repeat (first|(with_reducible first|exact J.1|apply below_alloc|apply pw_below_drewN|apply below_drew1|refine below_set ?_ V.1)|exact J.1)⟩⟩);· rw [if_neg c88] at H;exact absurd H (by simp));· rw [if_neg c82] at H;exact absurd H (by simp));· (replace A7:=Bool.eq_false_iff.mpr A7;subst A7;have H1:(if 0 ≤ G then (if G < (X.length:Int) then (if rdOf false X G=true then (if rdOf false T G=true then (bellpullref05_Images.l2 k2 (T.set (G:Int).toNat true) a0 (!(rdOf false T G)) X (wrap64 (G + 1))) else (bellpullref05_Images.l2 k2 (T.set (G:Int).toNat (rdOf false X G)) a0 (!(rdOf false T G)) X (wrap64 (G + 1)))) else (if rdOf false T G=true then (bellpullref05_Images.l2 k2 (T.set (G:Int).toNat true) a0 false X (wrap64 (G + 1))) else (bellpullref05_Images.l2 k2 (T.set (G:Int).toNat (rdOf false X G)) a0 false X (wrap64 (G + 1))))) else (none)) else (none))=some r:=by rw [if_neg (show ¬ (false=true) by decide)] at H;exact H);clear H;have H:=H1;clear H1;by_cases c93:0 ≤ G;(· rw [if_pos c93] at H;have c93b0:decide (0 ≤ G)=true:=decide_eq_true c93;clear c93;by_cases c94:G < (X.length:Int);(· rw [if_pos c94] at H;have c94b0:decide (G < (X.length:Int))=true:=decide_eq_true c94;clear c94;obtain ⟨s5,s6⟩:∃ b_:Bool,b_=(rdOf false X G):=⟨_,rfl⟩;(replace H:(if s5=true then (if rdOf false T G=true then (bellpullref05_Images.l2 k2 (T.set (G:Int).toNat true) a0 (!(rdOf false T G)) X (wrap64 (G + 1))) else (bellpullref05_Images.l2 k2 (T.set (G:Int).toNat (s5)) a0 (!(rdOf false T G)) X (wrap64 (G + 1)))) else (if rdOf false T G=true then (bellpullref05_Images.l2 k2 (T.set (G:Int).toNat true) a0 false X (wrap64 (G + 1))) else (bellpullref05_Images.l2 k2 (T.set (G:Int).toNat (s5)) a0 false X (wrap64 (G + 1)))))=some r:=by rw [← s6] at H;exact H);have f4:=mk0 s6;clear s6;by_cases B1:s5=true;(· (subst B1;have H1:(if rdOf false T G=true then (bellpullref05_Images.l2 k2 (T.set (G:Int).toNat true) a0 (!(rdOf false T G)) X (wrap64 (G + 1))) else (bellpullref05_Images.l2 k2 (T.set (G:Int).toNat (true)) a0 (!(rdOf false T G)) X (wrap64 (G + 1))))=some r:=by rw [if_pos rfl] at H;exact H);clear H;have H:=H1;clear H1;obtain ⟨s7,s8⟩:∃ b_:Bool,b_=(rdOf false T G):=⟨_,rfl⟩;(replace H:(if s7=true then (bellpullref05_Images.l2 k2 (T.set (G:Int).toNat true) a0 (!(s7)) X (wrap64 (G + 1))) else (bellpullref05_Images.l2 k2 (T.set (G:Int).toNat (true)) a0 (!(s7)) X (wrap64 (G + 1))))=some r:=by rw [← s8] at H;exact H);have h0:=mk0 s8;clear s8;by_cases B2:s7=true;(· (subst B2;have H1:(bellpullref05_Images.l2 k2 (T.set (G:Int).toNat true) a0 (!(true)) X (wrap64 (G + 1)))=some r:=by rw [if_pos rfl] at H;exact H);clear H;have H:=H1;clear H1;obtain ⟨x7,l6⟩:∃ y_:List Bool,y_=(T.set (G:Int).toNat true):=⟨_,rfl⟩;(replace H:(bellpullref05_Images.l2 k2 x7 a0 (!(true)) X (wrap64 (G + 1)))=some r:=by first|(rw [l6];with_reducible exact H)|(have b6:=(Option.bind_some _ _).symm.trans H;rw [l6];with_reducible exact b6)|(have b6:=(Option.bind_some _ _).symm.trans H;with_reducible exact b6)|with_reducible exact H|(rw [l6];exact H)|exact H);have J5:=mk0 l6;clear l6;have H':=mk0 H;clear H;obtain ⟨Y1,B3,J6⟩:=Kd.R_slice b2.1;subst J6;have f5:0 ≤ (G:Int):=of_decide_eq_true (by first|(with_reducible assumption)|assumption);have f6:G < (X.length:Int):=of_decide_eq_true (by first|(with_reducible assumption)|assumption);obtain ⟨e9,i5,d8⟩:=Kd.at_bool (Kd.R_reads' b2.1).2.2 G f5 f6;(try rw [← f4.1] at d8);(try rw [← h0.1] at d8);cases i5;replace f5:=eq_true f5;replace f6:=eq_true f6;have i6:0 ≤ (G:Int):=of_decide_eq_true (by first|(with_reducible assumption)|assumption);have i7:G < (T.length:Int):=of_decide_eq_true (by first|(with_reducible assumption)|assumption);obtain ⟨s9,x8,d9⟩:=Kd.at_bool (Kd.R_reads' Y.1).2.2 G i6 i7;(try rw [← f4.1] at d9);(try rw [← h0.1] at d9);obtain rfl:(⟨a2,0,none⟩:Addr)=s9:=(by injection x8);(first|simp only [add_plain] at d9|simp only [add_at] at d9|simp only [Addr.add,Nat.zero_add] at d9|skip);replace i6:=eq_true i6;replace i7:=eq_true i7;have i8:0 ≤ (G:Int):=of_decide_eq_true (by first|(with_reducible assumption)|assumption);have i9:G < (T.length:Int):=of_decide_eq_true (by first|(with_reducible assumption)|assumption);obtain ⟨t0,x9,e0⟩:=Kd.at_bool (Kd.R_reads' Y.1).2.2 G i8 i9;(try rw [← f4.1] at e0);(try rw [← h0.1] at e0);obtain rfl:(⟨a2,0,none⟩:Addr)=t0:=(by injection x9);(first|simp only [add_plain] at e0|simp only [add_at] at e0|simp only [Addr.add,Nat.zero_add] at e0|skip);replace i8:=eq_true i8;replace i9:=eq_true i9;have H4:0 ≤ (G:Int):=of_decide_eq_true (by first|(with_reducible assumption)|assumption);have H5:(G:Int) < ((T.length:Int):Int):=of_decide_eq_true (by first|(with_reducible assumption)|assumption);obtain ⟨V4,V5⟩:=Kd.R_celln false Y.1 (G:Int) H4 H5;replace H4:=eq_true H4;replace H5:=eq_true H5;have t1:=Kd.R_putg Y.1 (G:Int) true;go_wp2_with (first|((with_reducible refine gate_store (t:=4) (p:=121) rfl ?_);refine store_event (t:=4) (p:=121) (v:=?vo_w102) (w1:=(wr.setCell ⟨a2,(G:Int).toNat,none⟩ (.bool true))) ?hg ?ho ?hn ?hr ?_;(case ho=>rfl);(case hg=>rfl);(case hn=>rfl);(case hr=>first|(go_simp;done)|(go_simp;rfl));intro y0 hw;have hg:wr.grownBy y0 (some a2):=(by rw [hw];exact t1.2);have hp_:Kd.R Kd.bool 4 y0 w.heap.size (fun k_=>some k_ ≠ (.slice f2 a0.length f3:Value).ownBlock∧some k_ ≠ (.slice (some e9) X.length B3:Value).ownBlock) (.slice (some ⟨a2,0,none⟩) T.length b1) x7:=(by rw [hw,J5.1];exact t1.1);clear t1;replace b4:=mk0 (Kd.R_after (v:=(.slice (some ⟨a2,0,none⟩) T.length b1)) (v1:=(.slice (some ⟨a2,0,none⟩) T.length b1)) (ok:=(fun k_=>some k_ ≠ (.slice (some e9) X.length B3:Value).ownBlock)) (by (with_reducible repeat (first|apply Kd.R_alloc|apply Kd.R_drewN|apply Kd.R_drew));exact Kd.R_mono b4.1 (fun _ hk=>⟨hk.2,hk.1⟩)) hg (.inl rfl));replace b2:=mk0 (Kd.R_after (v:=(.slice (some ⟨a2,0,none⟩) T.length b1)) (v1:=(.slice (some ⟨a2,0,none⟩) T.length b1)) (ok:=(fun k_=>some k_ ≠ (.slice f2 a0.length f3:Value).ownBlock)) (by (with_reducible repeat (first|apply Kd.R_alloc|apply Kd.R_drewN|apply Kd.R_drew));exact Kd.R_mono b2.1 (fun _ hk=>⟨hk.2,hk.1⟩)) hg (.inl rfl));replace F:=mk0 (blk_grown (g:=I) (o:=.cells #[.int .u8 ((rd_T98 O M).f0),.slice (some g4) ((rd_T98 O M).f1).length U] 98 (0,0)) F.1 hg (Kd.R_ne Y.1 F.1 (by decide)));replace Y:=mk0 (hp_);replace J:=mk0 ((by rw [hw];exact below_set (J.1) i2.1:Below w.heap.size w y0));clear hg hw hp_));(try simp only [← a7]);go_roundg k2;(case measure=>have:=g0.1;have:=g6.1;omega);case rel=>exact ⟨(x7),(!(true)),(wrap64 (G + 1)),(by first|rfl|(simp;done)|(simp [*];done)),(by first|rfl|(simp;done)|(simp [*];done)),H',⟨by have:=g0.1;have:=g6.1;omega⟩,⟨by (try simp only [b0]);(try simp only [a7]);(with_reducible repeat (first|apply Kd.R_alloc|apply Kd.R_drewN|apply Kd.R_drew));exact Y.1⟩,⟨by (try simp only [b0]);(try simp only [a7]);(with_reducible repeat (first|apply Kd.R_alloc|apply Kd.R_drewN|apply Kd.R_drew));exact Kd.R_mono b4.1 (fun _ hk=>⟨hk.2,hk.1⟩)⟩,⟨by (try simp only [b0]);(try simp only [a7]);(with_reducible repeat (first|apply Kd.R_alloc|apply Kd.R_drewN|apply Kd.R_drew));exact Kd.R_mono b2.1 (fun _ hk=>⟨hk.2,hk.1⟩)⟩,⟨by (try simp only [b0]);(try simp only [a7]);exact F.1⟩,⟨by repeat (first|(with_reducible first|exact J.1|apply below_alloc|apply pw_below_drewN|apply below_drew1|refine below_set ?_ V.1)|exact J.1)⟩⟩);· (replace B2:=Bool.eq_false_iff.mpr B2;subst B2;have H1:(bellpullref05_Images.l2 k2 (T.set (G:Int).toNat (true)) a0 (!(false)) X (wrap64 (G + 1)))=some r:=by rw [if_neg (show ¬ (false=true) by decide)] at H;exact H);clear H;have H:=H1;clear H1;obtain ⟨y1,l7⟩:∃ y_:List Bool,y_=(T.set (G:Int).toNat (true)):=⟨_,rfl⟩;(replace H:(bellpullref05_Images.l2 k2 y1 a0 (!(false)) X (wrap64 (G + 1)))=some r:=by first|(rw [l7];with_reducible exact H)|(have b6:=(Option.bind_some _ _).symm.trans H;rw [l7];with_reducible exact b6)|(have b6:=(Option.bind_some _ _).symm.trans H;with_reducible exact b6)|with_reducible exact H|(rw [l7];exact H)|exact H);have J7:=mk0 l7;clear l7;have H':=mk0 H;clear H;obtain ⟨Y2,B4,J8⟩:=Kd.R_slice b2.1;subst J8;have f5:0 ≤ (G:Int):=of_decide_eq_true (by first|(with_reducible assumption)|assumption);have f6:G < (X.length:Int):=of_decide_eq_true (by first|(with_reducible assumption)|assumption);obtain ⟨e9,i5,d8⟩:=Kd.at_bool (Kd.R_reads' b2.1).2.2 G f5 f6;(try rw [← f4.1] at d8);(try rw [← h0.1] at d8);cases i5;replace f5:=eq_true f5;replace f6:=eq_true f6;have i6:0 ≤ (G:Int):=of_decide_eq_true (by first|(with_reducible assumption)|assumption);have i7:G < (T.length:Int):=of_decide_eq_true (by first|(with_reducible assumption)|assumption);obtain ⟨s9,x8,d9⟩:=Kd.at_bool (Kd.R_reads' Y.1).2.2 G i6 i7;(try rw [← f4.1] at d9);(try rw [← h0.1] at d9);obtain rfl:(⟨a2,0,none⟩:Addr)=s9:=(by injection x8);(first|simp only [add_plain] at d9|simp only [add_at] at d9|simp only [Addr.add,Nat.zero_add] at d9|skip);replace i6:=eq_true i6;replace i7:=eq_true i7;have i8:0 ≤ (G:Int):=of_decide_eq_true (by first|(with_reducible assumption)|assumption);have i9:G < (T.length:Int):=of_decide_eq_true (by first|(with_reducible assumption)|assumption);obtain ⟨t0,x9,e0⟩:=Kd.at_bool (Kd.R_reads' Y.1).2.2 G i8 i9;(try rw [← f4.1] at e0);(try rw [← h0.1] at e0);obtain rfl:(⟨a2,0,none⟩:Addr)=t0:=(by injection x9);(first|simp only [add_plain] at e0|simp only [add_at] at e0|simp only [Addr.add,Nat.zero_add] at e0|skip);replace i8:=eq_true i8;replace i9:=eq_true i9;have y2:0 ≤ (G:Int):=of_decide_eq_true (by first|(with_reducible assumption)|assumption);have y3:G < (X.length:Int):=of_decide_eq_true (by first|(with_reducible assumption)|assumption);obtain ⟨J9,Q9,q8⟩:=Kd.at_bool (Kd.R_reads' b2.1).2.2 G y2 y3;(try rw [← f4.1] at q8);(try rw [← h0.1] at q8);obtain rfl:e9=J9:=(by injection Q9);replace y2:=eq_true y2;replace y3:=eq_true y3;have y4:0 ≤ (G:Int):=of_decide_eq_true (by first|(with_reducible assumption)|assumption);have y5:(G:Int) < ((T.length:Int):Int):=of_decide_eq_true (by first|(with_reducible assumption)|assumption);obtain ⟨R8,R9⟩:=Kd.R_celln false Y.1 (G:Int) y4 y5;replace y4:=eq_true y4;replace y5:=eq_true y5;have t2:=Kd.R_putg Y.1 (G:Int) true;go_wp2_with (first|((with_reducible refine gate_store (t:=4) (p:=121) rfl ?_);refine store_event (t:=4) (p:=121) (v:=?vo_w106) (w1:=(wr.setCell ⟨a2,(G:Int).toNat,none⟩ (.bool true))) ?hg ?ho ?hn ?hr ?_;(case ho=>rfl);(case hg=>rfl);(case hn=>rfl);(case hr=>first|(go_simp;done)|(go_simp;rfl));intro y6 hw;have hg:wr.grownBy y6 (some a2):=(by rw [hw];exact t2.2);have hp_:Kd.R Kd.bool 4 y6 w.heap.size (fun k_=>some k_ ≠ (.slice f2 a0.length f3:Value).ownBlock∧some k_ ≠ (.slice (some e9) X.length B4:Value).ownBlock) (.slice (some ⟨a2,0,none⟩) T.length b1) y1:=(by rw [hw,J7.1];exact t2.1);clear t2;replace b4:=mk0 (Kd.R_after (v:=(.slice (some ⟨a2,0,none⟩) T.length b1)) (v1:=(.slice (some ⟨a2,0,none⟩) T.length b1)) (ok:=(fun k_=>some k_ ≠ (.slice (some e9) X.length B4:Value).ownBlock)) (by (with_reducible repeat (first|apply Kd.R_alloc|apply Kd.R_drewN|apply Kd.R_drew));exact Kd.R_mono b4.1 (fun _ hk=>⟨hk.2,hk.1⟩)) hg (.inl rfl));replace b2:=mk0 (Kd.R_after (v:=(.slice (some ⟨a2,0,none⟩) T.length b1)) (v1:=(.slice (some ⟨a2,0,none⟩) T.length b1)) (ok:=(fun k_=>some k_ ≠ (.slice f2 a0.length f3:Value).ownBlock)) (by (with_reducible repeat (first|apply Kd.R_alloc|apply Kd.R_drewN|apply Kd.R_drew));exact Kd.R_mono b2.1 (fun _ hk=>⟨hk.2,hk.1⟩)) hg (.inl rfl));replace F:=mk0 (blk_grown (g:=I) (o:=.cells #[.int .u8 ((rd_T98 O M).f0),.slice (some g4) ((rd_T98 O M).f1).length U] 98 (0,0)) F.1 hg (Kd.R_ne Y.1 F.1 (by decide)));replace Y:=mk0 (hp_);replace J:=mk0 ((by rw [hw];exact below_set (J.1) i2.1:Below w.heap.size w y6));clear hg hw hp_));(try simp only [← a7]);go_roundg k2;(case measure=>have:=g0.1;have:=g6.1;omega);case rel=>exact ⟨(y1),(!(false)),(wrap64 (G + 1)),(by first|rfl|(simp;done)|(simp [*];done)),(by first|rfl|(simp;done)|(simp [*];done)),H',⟨by have:=g0.1;have:=g6.1;omega⟩,⟨by (try simp only [b0]);(try simp only [a7]);(with_reducible repeat (first|apply Kd.R_alloc|apply Kd.R_drewN|apply Kd.R_drew));exact Y.1⟩,⟨by (try simp only [b0]);(try simp only [a7]);(with_reducible repeat (first|apply Kd.R_alloc|apply Kd.R_drewN|apply Kd.R_drew));exact Kd.R_mono b4.1 (fun _ hk=>⟨hk.2,hk.1⟩)⟩,⟨by (try simp only [b0]);(try simp only [a7]);(with_reducible repeat (first|apply Kd.R_alloc|apply Kd.R_drewN|apply Kd.R_drew));exact Kd.R_mono b2.1 (fun _ hk=>⟨hk.2,hk.1⟩)⟩,⟨by (try simp only [b0]);(try simp only [a7]);exact F.1⟩,⟨by repeat (first|(with_reducible first|exact J.1|apply below_alloc|apply pw_below_drewN|apply below_drew1|refine below_set ?_ V.1)|exact J.1)⟩⟩);· (replace B1:=Bool.eq_false_iff.mpr B1;subst B1;have H1:(if rdOf false T G=true then (bellpullref05_Images.l2 k2 (T.set (G:Int).toNat true) a0 false X (wrap64 (G + 1))) else (bellpullref05_Images.l2 k2 (T.set (G:Int).toNat (false)) a0 false X (wrap64 (G + 1))))=some r:=by rw [if_neg (show ¬ (false=true) by decide)] at H;exact H);clear H;have H:=H1;clear H1;obtain ⟨B5,p7⟩:∃ b_:Bool,b_=(rdOf false T G):=⟨_,rfl⟩;(replace H:(if B5=true then (bellpullref05_Images.l2 k2 (T.set (G:Int).toNat true) a0 false X (wrap64 (G + 1))) else (bellpullref05_Images.l2 k2 (T.set (G:Int).toNat (false)) a0 false X (wrap64 (G + 1))))=some r:=by rw [← p7] at H;exact H);have h3:=mk0 p7;clear p7;by_cases t3:B5=true;(· (subst t3;have H1:(bellpullref05_Images.l2 k2 (T.set (G:Int).toNat true) a0 false X (wrap64 (G + 1)))=some r:=by rw [if_pos rfl] at H;exact H);clear H;have H:=H1;clear H1;obtain ⟨y7,l8⟩:∃ y_:List Bool,y_=(T.set (G:Int).toNat true):=⟨_,rfl⟩;(replace H:(bellpullref05_Images.l2 k2 y7 a0 false X (wrap64 (G + 1)))=some r:=by first|(rw [l8];with_reducible exact H)|(have b6:=(Option.bind_some _ _).symm.trans H;rw [l8];with_reducible exact b6)|(have b6:=(Option.bind_some _ _).symm.trans H;with_reducible exact b6)|with_reducible exact H|(rw [l8];exact H)|exact H);have L0:=mk0 l8;clear l8;have H':=mk0 H;clear H;obtain ⟨Y3,B6,L1⟩:=Kd.R_slice b2.1;subst L1;have f5:0 ≤ (G:Int):=of_decide_eq_true (by first|(with_reducible assumption)|assumption);have f6:G < (X.length:Int):=of_decide_eq_true (by first|(with_reducible assumption)|assumption);obtain ⟨e9,i5,d8⟩:=Kd.at_bool (Kd.R_reads' b2.1).2.2 G f5 f6;(try rw [← f4.1] at d8);(try rw [← h3.1] at d8);cases i5;replace f5:=eq_true f5;replace f6:=eq_true f6;have j0:0 ≤ (G:Int):=of_decide_eq_true (by first|(with_reducible assumption)|assumption);have j1:G < (T.length:Int):=of_decide_eq_true (by first|(with_reducible assumption)|assumption);obtain ⟨t4,y8,e1⟩:=Kd.at_bool (Kd.R_reads' Y.1).2.2 G j0 j1;(try rw [← f4.1] at e1);(try rw [← h3.1] at e1);obtain rfl:(⟨a2,0,none⟩:Addr)=t4:=(by injection y8);(first|simp only [add_plain] at e1|simp only [add_at] at e1|simp only [Addr.add,Nat.zero_add] at e1|skip);replace j0:=eq_true j0;replace j1:=eq_true j1;have y9:0 ≤ (G:Int):=of_decide_eq_true (by first|(with_reducible assumption)|assumption);have z0:(G:Int) < ((T.length:Int):Int):=of_decide_eq_true (by first|(with_reducible assumption)|assumption);obtain ⟨T0,T1⟩:=Kd.R_celln false Y.1 (G:Int) y9 z0;replace y9:=eq_true y9;replace z0:=eq_true z0;have t5:=Kd.R_putg Y.1 (G:Int) true;go_wp2_with (first|((with_reducible refine gate_store (t:=4) (p:=121) rfl ?_);refine store_event (t:=4) (p:=121) (v:=?vo_w112) (w1:=(wr.setCell ⟨a2,(G:Int).toNat,none⟩ (.bool true))) ?hg ?ho ?hn ?hr ?_;(case ho=>rfl);(case hg=>rfl);(case hn=>rfl);(case hr=>first|(go_simp;done)|(go_simp;rfl));intro z1 hw;have hg:wr.grownBy z1 (some a2):=(by rw [hw];exact t5.2);have hp_:Kd.R Kd.bool 4 z1 w.heap.size (fun k_=>some k_ ≠ (.slice f2 a0.length f3:Value).ownBlock∧some k_ ≠ (.slice (some e9) X.length B6:Value).ownBlock) (.slice (some ⟨a2,0,none⟩) T.length b1) y7:=(by rw [hw,L0.1];exact t5.1);clear t5;replace b4:=mk0 (Kd.R_after (v:=(.slice (some ⟨a2,0,none⟩) T.length b1)) (v1:=(.slice (some ⟨a2,0,none⟩) T.length b1)) (ok:=(fun k_=>some k_ ≠ (.slice (some e9) X.length B6:Value).ownBlock)) (by (with_reducible repeat (first|apply Kd.R_alloc|apply Kd.R_drewN|apply Kd.R_drew));exact Kd.R_mono b4.1 (fun _ hk=>⟨hk.2,hk.1⟩)) hg (.inl rfl));replace b2:=mk0 (Kd.R_after (v:=(.slice (some ⟨a2,0,none⟩) T.length b1)) (v1:=(.slice (some ⟨a2,0,none⟩) T.length b1)) (ok:=(fun k_=>some k_ ≠ (.slice f2 a0.length f3:Value).ownBlock)) (by (with_reducible repeat (first|apply Kd.R_alloc|apply Kd.R_drewN|apply Kd.R_drew));exact Kd.R_mono b2.1 (fun _ hk=>⟨hk.2,hk.1⟩)) hg (.inl rfl));replace F:=mk0 (blk_grown (g:=I) (o:=.cells #[.int .u8 ((rd_T98 O M).f0),.slice (some g4) ((rd_T98 O M).f1).length U] 98 (0,0)) F.1 hg (Kd.R_ne Y.1 F.1 (by decide)));replace Y:=mk0 (hp_);replace J:=mk0 ((by rw [hw];exact below_set (J.1) i2.1:Below w.heap.size w z1));clear hg hw hp_));(try simp only [← a7]);go_roundg k2;(case measure=>have:=g0.1;have:=g6.1;omega);case rel=>exact ⟨(y7),(false),(wrap64 (G + 1)),(by first|rfl|(simp;done)|(simp [*];done)),(by first|rfl|(simp;done)|(simp [*];done)),H',⟨by have:=g0.1;have:=g6.1;omega⟩,⟨by (try simp only [b0]);(try simp only [a7]);(with_reducible repeat (first|apply Kd.R_alloc|apply Kd.R_drewN|apply Kd.R_drew));exact Y.1⟩,⟨by (try simp only [b0]);(try simp only [a7]);(with_reducible repeat (first|apply Kd.R_alloc|apply Kd.R_drewN|apply Kd.R_drew));exact Kd.R_mono b4.1 (fun _ hk=>⟨hk.2,hk.1⟩)⟩,⟨by (try simp only [b0]);(try simp only [a7]);(with_reducible repeat (first|apply Kd.R_alloc|apply Kd.R_drewN|apply Kd.R_drew));exact Kd.R_mono b2.1 (fun _ hk=>⟨hk.2,hk.1⟩)⟩,⟨by (try simp only [b0]);(try simp only [a7]);exact F.1⟩,⟨by repeat (first|(with_reducible first|exact J.1|apply below_alloc|apply pw_below_drewN|apply below_drew1|refine below_set ?_ V.1)|exact J.1)⟩⟩);· (replace t3:=Bool.eq_false_iff.mpr t3;subst t3;have H1:(bellpullref05_Images.l2 k2 (T.set (G:Int).toNat (false)) a0 false X (wrap64 (G + 1)))=some r:=by rw [if_neg (show ¬ (false=true) by decide)] at H;exact H);clear H;have H:=H1;clear H1;obtain ⟨z2,l9⟩:∃ y_:List Bool,y_=(T.set (G:Int).toNat (false)):=⟨_,rfl⟩;(replace H:(bellpullref05_Images.l2 k2 z2 a0 false X (wrap64 (G + 1)))=some r:=by first|(rw [l9];with_reducible exact H)|(have b6:=(Option.bind_some _ _).symm.trans H;rw [l9];with_reducible exact b6)|(have b6:=(Option.bind_some _ _).symm.trans H;with_reducible exact b6)|with_reducible exact H|(rw [l9];exact H)|exact H);have L2:=mk0 l9;clear l9;have H':=mk0 H;clear H;obtain ⟨Y4,B7,L3⟩:=Kd.R_slice b2.1;subst L3;have f5:0 ≤ (G:Int):=of_decide_eq_true (by first|(with_reducible assumption)|assumption);have f6:G < (X.length:Int):=of_decide_eq_true (by first|(with_reducible assumption)|assumption);obtain ⟨e9,i5,d8⟩:=Kd.at_bool (Kd.R_reads' b2.1).2.2 G f5 f6;(try rw [← f4.1] at d8);(try rw [← h3.1] at d8);cases i5;replace f5:=eq_true f5;replace f6:=eq_true f6;have j0:0 ≤ (G:Int):=of_decide_eq_true (by first|(with_reducible assumption)|assumption);have j1:G < (T.length:Int):=of_decide_eq_true (by first|(with_reducible assumption)|assumption);obtain ⟨t4,y8,e1⟩:=Kd.at_bool (Kd.R_reads' Y.1).2.2 G j0 j1;(try rw [← f4.1] at e1);(try rw [← h3.1] at e1);obtain rfl:(⟨a2,0,none⟩:Addr)=t4:=(by injection y8);(first|simp only [add_plain] at e1|simp only [add_at] at e1|simp only [Addr.add,Nat.zero_add] at e1|skip);replace j0:=eq_true j0;replace j1:=eq_true j1;have z3:0 ≤ (G:Int):=of_decide_eq_true (by first|(with_reducible assumption)|assumption);have z4:G < (X.length:Int):=of_decide_eq_true (by first|(with_reducible assumption)|assumption);obtain ⟨L4,R0,q9⟩:=Kd.at_bool (Kd.R_reads' b2.1).2.2 G z3 z4;(try rw [← f4.1] at q9);(try rw [← h3.1] at q9);obtain rfl:e9=L4:=(by injection R0);replace z3:=eq_true z3;replace z4:=eq_true z4;have z5:0 ≤ (G:Int):=of_decide_eq_true (by first|(with_reducible assumption)|assumption);have z6:(G:Int) < ((T.length:Int):Int):=of_decide_eq_true (by first|(with_reducible assumption)|assumption);obtain ⟨T2,T3⟩:=Kd.R_celln false Y.1 (G:Int) z5 z6;replace z5:=eq_true z5;replace z6:=eq_true z6;have t6:=Kd.R_putg Y.1 (G:Int) false;go_wp2_with (first|((with_reducible refine gate_store (t:=4) (p:=121) rfl ?_);refine store_event (t:=4) (p:=121) (v:=?vo_w116) (w1:=(wr.setCell ⟨a2,(G:Int).toNat,none⟩ (.bool false))) ?hg ?ho ?hn ?hr ?_;(case ho=>rfl);(case hg=>rfl);(case hn=>rfl);(case hr=>first|(go_simp;done)|(go_simp;rfl));intro z7 hw;have hg:wr.grownBy z7 (some a2):=(by rw [hw];exact t6.2);have hp_:Kd.R Kd.bool 4 z7 w.heap.size (fun k_=>some k_ ≠ (.slice f2 a0.length f3:Value).ownBlock∧some k_ ≠ (.slice (some e9) X.length B7:Value).ownBlock) (.slice (some ⟨a2,0,none⟩) T.length b1) z2:=(by rw [hw,L2.1];exact t6.1);clear t6;replace b4:=mk0 (Kd.R_after (v:=(.slice (some ⟨a2,0,none⟩) T.length b1)) (v1:=(.slice (some ⟨a2,0,none⟩) T.length b1)) (ok:=(fun k_=>some k_ ≠ (.slice (some e9) X.length B7:Value).ownBlock)) (by (with_reducible repeat (first|apply Kd.R_alloc|apply Kd.R_drewN|apply Kd.R_drew));exact Kd.R_mono b4.1 (fun _ hk=>⟨hk.2,hk.1⟩)) hg (.inl rfl));replace b2:=mk0 (Kd.R_after (v:=(.slice (some ⟨a2,0,none⟩) T.length b1)) (v1:=(.slice (some ⟨a2,0,none⟩) T.length b1)) (ok:=(fun k_=>some k_ ≠ (.slice f2 a0.length f3:Value).ownBlock)) (by (with_reducible repeat (first|apply Kd.R_alloc|apply Kd.R_drewN|apply Kd.R_drew));exact Kd.R_mono b2.1 (fun _ hk=>⟨hk.2,hk.1⟩)) hg (.inl rfl));replace F:=mk0 (blk_grown (g:=I) (o:=.cells #[.int .u8 ((rd_T98 O M).f0),.slice (some g4) ((rd_T98 O M).f1).length U] 98 (0,0)) F.1 hg (Kd.R_ne Y.1 F.1 (by decide)));replace Y:=mk0 (hp_);replace J:=mk0 ((by rw [hw];exact below_set (J.1) i2.1:Below w.heap.size w z7));clear hg hw hp_));(try simp only [← a7]);go_roundg k2;(case measure=>have:=g0.1;have:=g6.1;omega);case rel=>exact ⟨(z2),(false),(wrap64 (G + 1)),(by first|rfl|(simp;done)|(simp [*];done)),(by first|rfl|(simp;done)|(simp [*];done)),H',⟨by have:=g0.1;have:=g6.1;omega⟩,⟨by (try simp only [b0]);(try simp only [a7]);(with_reducible repeat (first|apply Kd.R_alloc|apply Kd.R_drewN|apply Kd.R_drew));exact Y.1⟩,⟨by (try simp only [b0]);(try simp only [a7]);(with_reducible repeat (first|apply Kd.R_alloc|apply Kd.R_drewN|apply Kd.R_drew));exact Kd.R_mono b4.1 (fun _ hk=>⟨hk.2,hk.1⟩)⟩,⟨by (try simp only [b0]);(try simp only [a7]);(with_reducible repeat (first|apply Kd.R_alloc|apply Kd.R_drewN|apply Kd.R_drew));exact Kd.R_mono b2.1 (fun _ hk=>⟨hk.2,hk.1⟩)⟩,⟨by (try simp only [b0]);(try simp only [a7]);exact F.1⟩,⟨by repeat (first|(with_reducible first|exact J.1|apply below_alloc|apply pw_below_drewN|apply below_drew1|refine below_set ?_ V.1)|exact J.1)⟩⟩);· rw [if_neg c94] at H;exact absurd H (by simp));· rw [if_neg c93] at H;exact absurd H (by simp));· rw [if_neg c80] at H;have c80b0:decide (G < (T.length:Int))=false:=decide_eq_false c80;clear c80;have H':=mk0 H;clear H;go_wp2;(try simp only [← b0,← a7]);go_roundg k2;(case measure=>have:=g0.1;have:=g6.1;omega);case rel=>exact ⟨(T),(l3),(by first|rfl|(simp;done)|(simp [*];done)),H',⟨by have:=g0.1;have:=g6.1;omega⟩,⟨by (try simp only [b0]);(try simp only [a7]);(with_reducible repeat (first|apply Kd.R_alloc|apply Kd.R_drewN|apply Kd.R_drew));exact Kd.R_mono Y.1 (fun _ hk=>hk.1)⟩,⟨by (try simp only [b0]);(try simp only [a7]);(with_reducible repeat (first|apply Kd.R_alloc|apply Kd.R_drewN|apply Kd.R_drew));exact Kd.R_mono b4.1 (fun _ hk=>hk.1)⟩,⟨by (try simp only [b0]);(try simp only [a7]);exact F.1⟩,⟨by repeat (first|(with_reducible first|exact J.1|apply below_alloc|apply pw_below_drewN|apply below_drew1|refine below_set ?_ V.1)|exact J.1)⟩⟩
           · (replace u4:=Bool.eq_false_iff.mpr u4;subst u4;have H1:(some b3)=some r:=by rw [if_neg (show ¬ (false=true) by decide)] at H;exact H);clear H;have H:=H1;clear H1;obtain rfl:=Option.some.inj H;go_wp2;go_ret;exact ⟨_,by first|rfl|(simp [errW_none,errW_some] <;> rfl)|(simp [*,errW_none,errW_some] <;> rfl),by (with_reducible repeat (first|apply Kd.R_alloc|apply Kd.R_drewN|apply Kd.R_drew));exact Kd.R_mono Y.1 (fun _ hk=>trivial),by repeat (first|(with_reducible first|exact J.1|apply below_alloc|apply pw_below_drewN|apply below_drew1|refine below_set ?_ V.1)|exact J.1)⟩
        · rw [if_neg c63] at H;exact absurd H (by simp)
       · rw [if_neg c61] at H;exact absurd H (by simp)
      · rw [if_neg c60] at H;have c60b0:(((rd_T98 O M).f0) == 42)=false:=beq_eq_false_iff_ne.mpr c60;have c60b1:(((rd_T98 O M).f0) != 42)=true:=bne_iff_ne.mpr c60;replace H:=Option.bind_eq_some_iff.mp H;obtain ⟨g9,B8,H⟩:=H;(try dsimp only at H);have R1:=mk0 B8;clear B8;replace H:=Option.bind_eq_some_iff.mp H;obtain ⟨d2,B9,H⟩:=H;(try dsimp only at H);have R2:=mk0 B9;clear B9;by_cases c119:0 ≤ d2;(· rw [if_pos c119] at H;have c119b0:decide (0 ≤ d2)=true:=decide_eq_true c119;clear c119;by_cases c120:d2 < (b5.length:Int);(· rw [if_pos c120] at H;have c120b0:decide (d2 < (b5.length:Int))=true:=decide_eq_true c120;clear c120;obtain ⟨H6,m0⟩:∃ y_:List Bool,y_=(b5.set (d2:Int).toNat true):=⟨_,rfl⟩;(replace H:(some H6)=some r:=by first|(rw [m0];with_reducible exact H)|(have b6:=(Option.bind_some _ _).symm.trans H;rw [m0];with_reducible exact b6)|(have b6:=(Option.bind_some _ _).symm.trans H;with_reducible exact b6)|with_reducible exact H|(rw [m0];exact H)|exact H);(have L5:=mk0 m0;clear m0;obtain rfl:=Option.some.inj H;go_enter Try.func62,Try.ntmps62;try go_wp2);replace J:=hdr J;have e2:0 ≤ (M:Int):=of_decide_eq_true (by first|(with_reducible assumption)|assumption);have e3:M < (O.length:Int):=of_decide_eq_true (by first|(with_reducible assumption)|assumption);obtain ⟨a4,a3,U,h7,a8,a9,d3,d4⟩:=at_T98 j2.1 M e2 e3;have D:=a9;have E:=a8;cases h7;replace a8:=bd_ J a8;replace a9:=bd_ J a9;have d1:=mk0 d4;have m4:=mk0 d3;clear d4 d3;replace e2:=eq_true e2;replace e3:=eq_true e3;refine start_ (n:=8) (S:=fun w'=>w'.cell? (a4.add ((M).toNat * 2))=some (.int .u8 ((rd_T98 O M).f0))∧w'.cell? ⟨(a4.add ((M).toNat * 2)).block,(a4.add ((M).toNat * 2)).off + 1,none⟩=some (.slice a3 ((rd_T98 O M).f1).length U)) (ds:=[]) #[n_,n_,n_,n_,n_,n_,n_,n_] (by kernel_rfl) rfl rfl ⟨(bd_ J E),(bd_ J D)⟩ (fun L=>?_);refine with_tabW bellpullref05_Images.tab1 bellpullref05_Images.bits1 (fun Z g2=>?_);generalize w.drew=Ar at J d1 a8 a9 L ⊢;refine pure_ (i:=0) (N:=some 14) (v:=?_) (a':=?_) #[y_,n_,n_,n_,n_,n_,n_,n_] rfl rfl (any_of Z.1 (by kernel_rfl)) (fun _ _ _ h=>h) (Or.inl ⟨by rfl,?_⟩) ?_ ?_;rotate_left;(· intro w';go_simp;with_reducible rfl);rotate_left;(· simp only [Act.put,s0_,s1_,s2_,i64_w,i32_w];rfl);refine pure_ (i:=1) (N:=some 15) (v:=?_) (a':=?_) #[y_,y_,n_,n_,n_,n_,n_,n_] rfl rfl (any_of Z.1 (by kernel_rfl)) (fun _ _ _ h=>h) (Or.inl ⟨by rfl,?_⟩) ?_ ?_;rotate_left;(· intro w';go_simp;with_reducible rfl);rotate_left;(· simp only [Act.put,s0_,s1_,s2_,i64_w,i32_w];rfl);refine pure_ (i:=2) (N:=some 16) (v:=?_) (a':=?_) #[y_,y_,y_,n_,n_,n_,n_,n_] rfl rfl (any_of Z.1 (by kernel_rfl)) (fun _ _ _ h=>h) (Or.inl ⟨by rfl,?_⟩) ?_ ?_;rotate_left;(· intro w';go_simp;with_reducible rfl);rotate_left;(· simp only [Act.put,s0_,s1_,s2_,i64_w,i32_w];rfl);refine take_ (i:=3) (N:=some 17) (v:=?_) (a':=?_) #[y_,y_,y_,y_,n_,n_,n_,n_] rfl rfl (take_ofW Z.1 g2.1 (by kernel_rfl)) (fun _ _ _ h=>h) (Or.inl ⟨by rfl,?_⟩) L ?_ ?_;rotate_left;(· rintro w' ⟨s0,s1⟩;go_simp;with_reducible rfl);rotate_left;(· simp only [Act.put,s0_,s1_,s2_,i64_w,i32_w];rfl);refine join_ (σ:=Value × Nat) 1 #[y_,y_,y_,y_,y_,y_,y_,n_] (fun s_=>[(18,s_.1),(5,.pointer (some ⟨s_.2,0,none⟩))]) (fun s_ w'=>(w'.cell? (a4.add ((M).toNat * 2))=some (.int .u8 ((rd_T98 O M).f0))∧w'.cell? ⟨(a4.add ((M).toNat * 2)).block,(a4.add ((M).toNat * 2)).off + 1,none⟩=some (.slice a3 ((rd_T98 O M).f1).length U))∧(Kd.R Kd.bool 4 w' w.heap.size (fun _=>True) s_.1 b5)∧(w'.heap[s_.2]?=some (.cells #[.int .u8 ((rd_T98 O M).f0),.slice a3 ((rd_T98 O M).f1).length U] 98 (0,0)))∧(w.heap.size ≤ s_.2)∧(w.heap.size ≤ s_.2)∧(Below w.heap.size w w')) ?_ ?_;rotate_left;(· intro hCont;refine two_ (i:=4) (j:=5) (Ni:=some 18) (Nj:=some 5) #[y_,y_,y_,y_,y_,n_,n_,n_] #[y_,y_,y_,y_,n_,y_,n_,n_] rfl rfl rfl rfl (two_of Z.1 (by kernel_rfl)) (by decide) (by decide) (fun K hK=>?_) (fun K hK=>?_);(· skip;refine Kd.R_make_step Kd.bool _ 4 (by rfl) (N:=18) rfl 99 _ _ rfl 729 rfl rfl Try.underlying99 (.bool false) 1 info4 rfl (by decide) (by omega) false (ok:=fun _=>True) (okp:=fun _=>True) rfl (fun _ hk=>hk) trivial (by omega) (by omega) (Below.refl _ _) (Nat.le_refl _) ?_;intro b7 R3 m1 hb hg_ b9;clear hg_ b9;(first|rw [← b8.1] at m1|(simp only [Int.reduceToNat] at m1;rw [← b8.1] at m1));have Q:=mk0 (Kd.R_lower m1 (below_size J.1));replace J:=bst J hb;clear hb m1;refine hK.out _ _ ⟨(bd_ J E),(bd_ J D)⟩ (fun L=>?_);clear hK K;refine norm_ (a':=?_) ?_ ?_;rotate_left;(· show Act.put _ (some 18) _=_;simp only [Act.put,s0_,s1_,s2_,i64_w,i32_w];rfl);refine one_ (i:=5) (N:=some 5) #[y_,y_,y_,y_,y_,y_,n_,n_] rfl rfl (one_of Z.1 (by kernel_rfl)) (by decide) (fun K hK=>?_);refine box_step ?hg (N:=5) ?hd (cs:=#[.int .u8 0,.slice none 0 0]) (t:=98) ?hr ?_;(case hd=>rfl);(case hg=>rfl);(case hr=>first|(go_simp;done)|(go_simp;rfl));intro I hg As c8 hb;have F:=mk0 (c8);have B:=szw hg J;have V:=szw hg J;replace Q:=rbl Q hb;replace J:=bst J hb;clear hb c8 hg;refine hK.out _ _ ⟨(bd_ J E),(bd_ J D)⟩ (fun L=>?_);clear hK K;refine norm_ (a':=?_) ?_ ?_;rotate_left;(· show Act.put _ (some 5) _=_;simp only [Act.put,s0_,s1_,s2_,i64_w,i32_w];rfl);refine one_ (i:=6) (N:=none) #[y_,y_,y_,y_,y_,y_,y_,n_] rfl rfl (one_of Z.1 (by kernel_rfl)) (by decide) (fun K hK=>?_);have L6:=q0_ F;have H7:=blk_frozen F.1 0;have L7:=q1_ F;have H8:=blk_frozen F.1 1;refine skip_ (w1:=?_) (by rfl) rfl ?_ ?_;rotate_left;(· go_simp;rfl);refine hK.out _ _ ⟨((cell_far (p:=⟨I,_,none⟩) (by first|exact (by first|exact nb_ E B.1|exact nc_ E B.1)|(rw [add_block];exact (by first|exact nb_ E B.1|exact nc_ E B.1))|(show (Addr.add _ _).block ≠ _;rw [add_block];exact (by first|exact nb_ E B.1|exact nc_ E B.1))|(dsimp only;exact (by first|exact nb_ E B.1|exact nc_ E B.1))) _).trans (((cell_far (p:=⟨I,_,none⟩) (by first|exact (by first|exact nb_ E B.1|exact nc_ E B.1)|(rw [add_block];exact (by first|exact nb_ E B.1|exact nc_ E B.1))|(show (Addr.add _ _).block ≠ _;rw [add_block];exact (by first|exact nb_ E B.1|exact nc_ E B.1))|(dsimp only;exact (by first|exact nb_ E B.1|exact nc_ E B.1))) _).trans (L.1)))),((cell_far (p:=⟨I,_,none⟩) (by first|exact (by first|exact nb_ D B.1|exact nc_ D B.1)|(rw [add_block];exact (by first|exact nb_ D B.1|exact nc_ D B.1))|(show (Addr.add _ _).block ≠ _;rw [add_block];exact (by first|exact nb_ D B.1|exact nc_ D B.1))|(dsimp only;exact (by first|exact nb_ D B.1|exact nc_ D B.1))) _).trans (((cell_far (p:=⟨I,_,none⟩) (by first|exact (by first|exact nb_ D B.1|exact nc_ D B.1)|(rw [add_block];exact (by first|exact nb_ D B.1|exact nc_ D B.1))|(show (Addr.add _ _).block ≠ _;rw [add_block];exact (by first|exact nb_ D B.1|exact nc_ D B.1))|(dsimp only;exact (by first|exact nb_ D B.1|exact nc_ D B.1))) _).trans (L.2))))⟩ (fun L=>?_);clear hK K;exact norm_ (by simp only [putAll,Act.put,s0_,s1_,s2_]) (hCont (b7,I) _ ⟨L,(by (with_reducible repeat (first|apply Kd.R_alloc|apply Kd.R_drewN|apply Kd.R_drew));exact Kd.R_mono (Kd.R_far (p:=⟨I,1,none⟩) (Kd.R_far (p:=⟨I,0,none⟩) (Kd.R_types Q.1 F.1 (by decide)) (fun _ hk=>hk.2) (.int .u8 ((rd_T98 O M).f0))) (fun _ hk=>hk.2) (.slice a3 ((rd_T98 O M).f1).length U)) (fun _ hk=>trivial)),(by refine blk_put (cs:=#[.int .u8 ((rd_T98 O M).f0),.slice none 0 0]) ?_ 1 _ rfl;refine blk_put (cs:=#[.int .u8 0,.slice none 0 0]) ?_ 0 _ rfl;exact F.1),B.1,V.1,(by repeat (with_reducible first|exact J.1|refine below_set ?_ V.1))⟩));· skip;refine box_step ?hg (N:=5) ?hd (cs:=#[.int .u8 0,.slice none 0 0]) (t:=98) ?hr ?_;(case hd=>rfl);(case hg=>rfl);(case hr=>first|(go_simp;done)|(go_simp;rfl));intro I hg R3 c8 hb;have F:=mk0 (c8);have B:=szw hg J;have V:=szw hg J;replace J:=bst J hb;clear hb c8 hg;refine hK.out _ _ ⟨(bd_ J E),(bd_ J D)⟩ (fun L=>?_);clear hK K;refine norm_ (a':=?_) ?_ ?_;rotate_left;(· show Act.put _ (some 5) _=_;simp only [Act.put,s0_,s1_,s2_,i64_w,i32_w];rfl);refine two_ (i:=4) (j:=6) (Ni:=some 18) (Nj:=none) #[y_,y_,y_,y_,y_,y_,n_,n_] #[y_,y_,y_,y_,n_,y_,y_,n_] rfl rfl rfl rfl (two_of Z.1 (by kernel_rfl)) (by decide) (by decide) (fun K hK=>?_) (fun K hK=>?_);(· skip;refine Kd.R_make_step Kd.bool _ 4 (by rfl) (N:=18) rfl 99 _ _ rfl 729 rfl rfl Try.underlying99 (.bool false) 1 info4 rfl (by decide) (by omega) false (ok:=fun _=>True) (okp:=fun _=>True) rfl (fun _ hk=>hk) trivial (by omega) (by omega) (Below.refl _ _) (Nat.le_refl _) ?_;intro b7 At m2 hb hg_ b9;clear hg_ b9;(first|rw [← b8.1] at m2|(simp only [Int.reduceToNat] at m2;rw [← b8.1] at m2));have Q:=mk0 (Kd.R_lower m2 (below_size J.1));replace F:=bkb F hb;replace J:=bst J hb;clear hb m2;refine hK.out _ _ ⟨(bd_ J E),(bd_ J D)⟩ (fun L=>?_);clear hK K;refine norm_ (a':=?_) ?_ ?_;rotate_left;(· show Act.put _ (some 18) _=_;simp only [Act.put,s0_,s1_,s2_,i64_w,i32_w];rfl);refine one_ (i:=6) (N:=none) #[y_,y_,y_,y_,y_,y_,y_,n_] rfl rfl (one_of Z.1 (by kernel_rfl)) (by decide) (fun K hK=>?_);have L6:=q0_ F;have H7:=blk_frozen F.1 0;have L7:=q1_ F;have H8:=blk_frozen F.1 1;refine skip_ (w1:=?_) (by rfl) rfl ?_ ?_;rotate_left;(· go_simp;rfl);refine hK.out _ _ ⟨((cell_far (p:=⟨I,_,none⟩) (by first|exact (by first|exact nb_ E B.1|exact nc_ E B.1)|(rw [add_block];exact (by first|exact nb_ E B.1|exact nc_ E B.1))|(show (Addr.add _ _).block ≠ _;rw [add_block];exact (by first|exact nb_ E B.1|exact nc_ E B.1))|(dsimp only;exact (by first|exact nb_ E B.1|exact nc_ E B.1))) _).trans (((cell_far (p:=⟨I,_,none⟩) (by first|exact (by first|exact nb_ E B.1|exact nc_ E B.1)|(rw [add_block];exact (by first|exact nb_ E B.1|exact nc_ E B.1))|(show (Addr.add _ _).block ≠ _;rw [add_block];exact (by first|exact nb_ E B.1|exact nc_ E B.1))|(dsimp only;exact (by first|exact nb_ E B.1|exact nc_ E B.1))) _).trans (L.1)))),((cell_far (p:=⟨I,_,none⟩) (by first|exact (by first|exact nb_ D B.1|exact nc_ D B.1)|(rw [add_block];exact (by first|exact nb_ D B.1|exact nc_ D B.1))|(show (Addr.add _ _).block ≠ _;rw [add_block];exact (by first|exact nb_ D B.1|exact nc_ D B.1))|(dsimp only;exact (by first|exact nb_ D B.1|exact nc_ D B.1))) _).trans (((cell_far (p:=⟨I,_,none⟩) (by first|exact (by first|exact nb_ D B.1|exact nc_ D B.1)|(rw [add_block];exact (by first|exact nb_ D B.1|exact nc_ D B.1))|(show (Addr.add _ _).block ≠ _;rw [add_block];exact (by first|exact nb_ D B.1|exact nc_ D B.1))|(dsimp only;exact (by first|exact nb_ D B.1|exact nc_ D B.1))) _).trans (L.2))))⟩ (fun L=>?_);clear hK K;exact norm_ (by simp only [putAll,Act.put,s0_,s1_,s2_]) (hCont (b7,I) _ ⟨L,(by (with_reducible repeat (first|apply Kd.R_alloc|apply Kd.R_drewN|apply Kd.R_drew));exact Kd.R_mono (Kd.R_far (p:=⟨I,1,none⟩) (Kd.R_far (p:=⟨I,0,none⟩) (Kd.R_types Q.1 F.1 (by decide)) (fun _ hk=>hk.2) (.int .u8 ((rd_T98 O M).f0))) (fun _ hk=>hk.2) (.slice a3 ((rd_T98 O M).f1).length U)) (fun _ hk=>trivial)),(by refine blk_put (cs:=#[.int .u8 ((rd_T98 O M).f0),.slice none 0 0]) ?_ 1 _ rfl;refine blk_put (cs:=#[.int .u8 0,.slice none 0 0]) ?_ 0 _ rfl;exact F.1),B.1,V.1,(by repeat (with_reducible first|exact J.1|refine below_set ?_ V.1))⟩));· skip;have Y5:=q0_ F;have V6:=blk_frozen F.1 0;have Y6:=q1_ F;have V7:=blk_frozen F.1 1;refine skip_ (w1:=?_) (by rfl) rfl ?_ ?_;rotate_left;(· go_simp;rfl);refine hK.out _ _ ⟨((cell_far (p:=⟨I,_,none⟩) (by first|exact (by first|exact nb_ E B.1|exact nc_ E B.1)|(rw [add_block];exact (by first|exact nb_ E B.1|exact nc_ E B.1))|(show (Addr.add _ _).block ≠ _;rw [add_block];exact (by first|exact nb_ E B.1|exact nc_ E B.1))|(dsimp only;exact (by first|exact nb_ E B.1|exact nc_ E B.1))) _).trans (((cell_far (p:=⟨I,_,none⟩) (by first|exact (by first|exact nb_ E B.1|exact nc_ E B.1)|(rw [add_block];exact (by first|exact nb_ E B.1|exact nc_ E B.1))|(show (Addr.add _ _).block ≠ _;rw [add_block];exact (by first|exact nb_ E B.1|exact nc_ E B.1))|(dsimp only;exact (by first|exact nb_ E B.1|exact nc_ E B.1))) _).trans (L.1)))),((cell_far (p:=⟨I,_,none⟩) (by first|exact (by first|exact nb_ D B.1|exact nc_ D B.1)|(rw [add_block];exact (by first|exact nb_ D B.1|exact nc_ D B.1))|(show (Addr.add _ _).block ≠ _;rw [add_block];exact (by first|exact nb_ D B.1|exact nc_ D B.1))|(dsimp only;exact (by first|exact nb_ D B.1|exact nc_ D B.1))) _).trans (((cell_far (p:=⟨I,_,none⟩) (by first|exact (by first|exact nb_ D B.1|exact nc_ D B.1)|(rw [add_block];exact (by first|exact nb_ D B.1|exact nc_ D B.1))|(show (Addr.add _ _).block ≠ _;rw [add_block];exact (by first|exact nb_ D B.1|exact nc_ D B.1))|(dsimp only;exact (by first|exact nb_ D B.1|exact nc_ D B.1))) _).trans (L.2))))⟩ (fun L=>?_);clear hK K;refine one_ (i:=4) (N:=some 18) #[y_,y_,y_,y_,y_,y_,y_,n_] rfl rfl (one_of Z.1 (by kernel_rfl)) (by decide) (fun K hK=>?_);refine Kd.R_make_step Kd.bool _ 4 (by rfl) (N:=18) rfl 99 _ _ rfl 729 rfl rfl Try.underlying99 (.bool false) 1 info4 rfl (by decide) (by omega) false (ok:=fun _=>True) (okp:=fun _=>True) rfl (fun _ hk=>hk) trivial (by omega) (by omega) (Below.refl _ _) (Nat.le_refl _) ?_;intro b7 Au m3 hb hg_ b9;clear hg_ b9;(first|rw [← b8.1] at m3|(simp only [Int.reduceToNat] at m3;rw [← b8.1] at m3));have Q:=mk0 (Kd.R_lower m3 (below_size (by repeat (with_reducible first|exact J.1|refine below_set ?_ V.1))));replace F:=mk0 (blk_below (g:=I) (o:=.cells #[.int .u8 ((rd_T98 O M).f0),.slice a3 ((rd_T98 O M).f1).length U] 98 (0,0)) (by refine blk_put (cs:=#[.int .u8 ((rd_T98 O M).f0),.slice none 0 0]) ?_ 1 _ rfl;refine blk_put (cs:=#[.int .u8 0,.slice none 0 0]) ?_ 0 _ rfl;exact F.1) hb);replace J:=mk0 (below_step (by repeat (with_reducible first|exact J.1|refine below_set ?_ V.1)) hb);clear hb m3;refine hK.out _ _ ⟨(bd_ J E),(bd_ J D)⟩ (fun L=>?_);clear hK K;refine norm_ (a':=?_) ?_ ?_;rotate_left;(· show Act.put _ (some 18) _=_;simp only [Act.put,s0_,s1_,s2_,i64_w,i32_w];rfl);exact norm_ (by simp only [putAll,Act.put,s0_,s1_,s2_]) (hCont (b7,I) _ ⟨L,Q.1,F.1,B.1,V.1,J.1⟩));clear J;rintro ⟨b7,I⟩ t7 f9;(try dsimp only at f9);replace f9:=h_ (m4_ l_) f9;obtain ⟨n5,Q,F,B,V,J⟩:=f9;have L:t7.cell? (a4.add ((M).toNat * 2))=some (.int .u8 ((rd_T98 O M).f0))∧t7.cell? ⟨(a4.add ((M).toNat * 2)).block,(a4.add ((M).toNat * 2)).off + 1,none⟩=some (.slice a3 ((rd_T98 O M).f1).length U):=n5;refine norm_ (a':=?_) ?_ ?_;rotate_left;(· simp only [putAll,Act.put,s0_,s1_,s2_];rfl);refine pure_ (i:=7) (N:=some 6) (v:=?_) (a':=?_) #[y_,y_,y_,y_,y_,y_,y_,y_] rfl rfl (any_of Z.1 (by kernel_rfl)) (fun _ _ _ h=>h) (Or.inl ⟨by rfl,?_⟩) ?_ ?_;rotate_left;(· intro w';go_simp;with_reducible rfl);rotate_left;(· simp only [Act.put,s0_,s1_,s2_,i64_w,i32_w];rfl);(refine done_ (done_of Z.1 (by kernel_rfl)) ?_;have R4:t7.cell? ⟨I,0,none⟩=some (.int .u8 ((rd_T98 O M).f0)):=q0_ F;have R5:t7.cell? ⟨I,1,none⟩=some (.slice a3 ((rd_T98 O M).f1).length U):=q1_ F;have R6:=blk_frozen F.1 0;have R7:=blk_frozen F.1 1;try go_wp2_with (first|((with_reducible refine gate_callee (f:=73) rfl ?_);refine goesL_ (some 24) rfl rfl Try.func73 (by kernel_rfl) rfl #[.int .u8 ((rd_T98 O M).f0)] rfl (by (try simp only [m0_,m1_,m2_]);first|done|rfl|(simp only [l0_,l1_];rfl)) ?_;(with_reducible refine (bellpullref05_letter.calls ((rd_T98 O M).f0) g9 _ R1.1).mono ?_);rintro e h1 ⟨Av,rfl,c1,hb⟩;refine ⟨_,rfl,?_⟩;have g7:=mk0 (Kd.R_lower c1 (below_size (by repeat (first|(with_reducible first|exact J.1|apply below_alloc|apply pw_below_drewN|apply below_drew1|refine below_set ?_ V.1)|exact J.1))));replace Q:=mk0 (Kd.R_below (by (with_reducible repeat (first|apply Kd.R_alloc|apply Kd.R_drewN|apply Kd.R_drew));exact Q.1) hb);replace F:=mk0 (blk_below (g:=I) (o:=.cells #[.int .u8 ((rd_T98 O M).f0),.slice a3 ((rd_T98 O M).f1).length U] 98 (0,0)) (by (with_reducible repeat (first|refine blk_drewN ?_ _|refine blk_drew ?_|refine blk_alloc ?_ _));exact F.1) hb);replace J:=mk0 (below_step (by repeat (first|(with_reducible first|exact J.1|apply below_alloc|apply pw_below_drewN|apply below_drew1|refine below_set ?_ V.1)|exact J.1)) hb);(try clear hb);(try clear c1);obtain ⟨C0,C1,L8⟩:=Kd.R_slice g7.1;subst L8)|((with_reducible refine gate_callee (f:=63) rfl ?_);refine goesL_ (some 25) rfl rfl Try.func63 (by kernel_rfl) rfl #[.slice C0 g9.length C1] rfl (by (try simp only [m0_,m1_,m2_]);first|done|rfl|(simp only [l0_,l1_];rfl)) ?_;(with_reducible refine (bellpullref05_index.calls _ _ g9 d2 _ ?side1 ?side2 R2.1).mono ?_);(case side1=>repeat (first|exact (Kd.R_reads' g7.1).2.2|(with_reducible refine Kd.C_alloc ?_ _)|(with_reducible refine Kd.C_drewN ?_ _)|(with_reducible refine Kd.C_drew ?_)));(case side2=>exact (Kd.R_reads' g7.1).2.1);rintro e w' ⟨rfl,⟨nd,rfl⟩⟩;refine ⟨_,rfl,?_⟩;(try (rw [drewN_self h1];generalize hq_:World.drewN h1 _=h1;have M4:Aside0 (Kd.R Kd.bool 4 h1 w.heap.size (fun _=>True) b7 b5):=⟨by rw [← hq_];exact (by (with_reducible repeat (first|apply Kd.R_alloc|apply Kd.R_drewN|apply Kd.R_drew));exact Q.1)⟩;have M5:Aside0 (Kd.R (Kd.int .i64) 3 h1 w.heap.size (fun _=>True) (.slice C0 g9.length C1) g9):=⟨by rw [← hq_];exact (by (with_reducible repeat (first|apply Kd.R_alloc|apply Kd.R_drewN|apply Kd.R_drew));exact g7.1)⟩;have M6:Aside0 (h1.heap[I]?=some (.cells #[.int .u8 ((rd_T98 O M).f0),.slice a3 ((rd_T98 O M).f1).length U] 98 (0,0))):=⟨by rw [← hq_];exact (by (with_reducible repeat (first|refine blk_drewN ?_ _|refine blk_drew ?_|refine blk_alloc ?_ _));exact F.1)⟩;have M7:Aside0 (Below w.heap.size w h1):=⟨by rw [← hq_];exact (by repeat (first|(with_reducible first|exact J.1|apply below_alloc|apply pw_below_drewN|apply below_drew1|refine below_set ?_ V.1)|exact J.1))⟩;clear Q g7 F J hq_;have Q:=M4;have g7:=M5;have F:=M6;have J:=M7;clear M4 M5 M6 M7));have z8:0 ≤ (d2:Int):=of_decide_eq_true (by first|(with_reducible assumption)|assumption);have z9:(d2:Int) < ((b5.length:Int):Int):=of_decide_eq_true (by first|(with_reducible assumption)|assumption);obtain ⟨m8,C2,C3,C4,L9,Y7,C5⟩:=Kd.R_form Q.1 (by omega);(first|cases C3|(injection C3 with ea_ en_ ec_;(first|subst ea_|(injection ea_ with ea_;subst ea_));subst ec_;clear en_));have M0:=mk0 C4;have Y8:=mk0 C5;clear C4 L9 C5;obtain ⟨T4,T5⟩:=Kd.R_celln false Q.1 (d2:Int) z8 z9;replace z8:=eq_true z8;replace z9:=eq_true z9;obtain ⟨V8,V9⟩:=Kd.R_celln false Q.1 (d2:Int) (of_decide_eq_true (by first|(with_reducible assumption)|assumption)) (of_decide_eq_true (by first|(with_reducible assumption)|assumption));have t8:=Kd.R_putg Q.1 (d2:Int) true)|((with_reducible refine gate_store (t:=4) (p:=26) rfl ?_);refine store_event (t:=4) (p:=26) (v:=?vo_w133) (w1:=(h1.setCell ⟨m8,(d2:Int).toNat,none⟩ (.bool true))) ?hg ?ho ?hn ?hr ?_;(case ho=>rfl);(case hg=>rfl);(case hn=>rfl);(case hr=>first|(go_simp;done)|(go_simp;rfl));intro A1 hw;have hg:h1.grownBy A1 (some m8):=(by rw [hw];exact t8.2);have hp_:Kd.R Kd.bool 4 A1 w.heap.size (fun _=>True) (.slice (some ⟨m8,0,none⟩) b5.length C2) H6:=(by rw [hw,L5.1];exact t8.1);clear t8;replace F:=mk0 (blk_grown (g:=I) (o:=.cells #[.int .u8 ((rd_T98 O M).f0),.slice a3 ((rd_T98 O M).f1).length U] 98 (0,0)) (by (with_reducible repeat (first|refine blk_drewN ?_ _|refine blk_drew ?_|refine blk_alloc ?_ _));exact F.1) hg (Kd.R_ne Q.1 F.1 (by decide)));replace g7:=mk0 (Kd.R_over' (v:=(.slice (some ⟨m8,0,none⟩) b5.length C2)) (by (with_reducible repeat (first|apply Kd.R_alloc|apply Kd.R_drewN|apply Kd.R_drew));exact g7.1) (Kd.R_typed Q.1) (by decide) hg);replace Q:=mk0 (hp_);replace J:=mk0 ((by rw [hw];exact below_set (J.1) M0.1:Below w.heap.size w A1));clear hg hw hp_)));go_ret;exact ⟨_,by first|rfl|(simp [errW_none,errW_some] <;> rfl)|(simp [*,errW_none,errW_some] <;> rfl),by (with_reducible repeat (first|apply Kd.R_alloc|apply Kd.R_drewN|apply Kd.R_drew));exact Q.1,by repeat (first|(with_reducible first|exact J.1|apply below_alloc|apply pw_below_drewN|apply below_drew1|refine below_set ?_ V.1)|exact J.1)⟩);· rw [if_neg c120] at H;exact absurd H (by simp));· rw [if_neg c119] at H;exact absurd H (by simp)
   · rw [if_neg c5] at H;exact absurd H (by simp)
  · rw [if_neg c4] at H;exact absurd H (by simp)
 · rw [if_neg c3] at H;exact absurd H (by simp)
end Go.Proofs.Ytkonljiembcdlaa.PC
namespace Go.Proofs.Ytkonljiembcdlaa.PC
open Go.Proofs.MyWords Go.RowKit Go.Proofs.YtkonljiembcdlaaW.PrintWords Go.Proofs.YtkonljiembcdlaaW.PrintLast Go.Proofs.YtkonljiembcdlaaW.PrintMore
attribute [local go_sem] max2_int min2_int max_two min_two max_three min_three max_four min_four   -- for this text's walks alone
set_option linter.unusedVariables false
set_option linter.unusedSimpArgs false
attribute [local go_sem] eqGuard_slices eqlnil23 neqnil23 eqlnil58 neqnil58
def bellpullref05_Accepts.f (k:Nat) (l0:List (S98)) (l1:List Int):Option (Bool):=(bellpullref05_Images.f k l0 (wrap64 ((l0.length:Int) - 1))).bind fun t637=>((bellpullref05_index.f l1).bind fun t640=>(if 0 ≤ t640 then (if t640 < (t637.length:Int) then (some (rdOf false t637 t640)) else (none)) else (none)))
set_option maxHeartbeats 8000000 in
set_option maxRecDepth 100000 in
theorem bellpullref05_Accepts.calls (k:Nat) (V:Option Addr) (X:Nat) (E:List (S98)) (Y:Option Addr) (Z:Nat) (F:List Int) (r:Bool) (w:World) (M:Kd.C k98 w V E.length E) (N:E.length ≤ X) (O:Kd.C (Kd.int .i64) w Y F.length F) (Q:F.length ≤ Z) (h:bellpullref05_Accepts.f k E F=some r) :
    Calls Try.prog 28 #[.slice V E.length X,.slice Y F.length Z] w fun e w'=>e=.returned (.bool r)∧Below w.heap.size w w':=by
 have a2:=mk0 M;have a3:=mk0 N;clear M N;have a4:=mk0 O;have a5:=mk0 Q;clear O Q;have G:=mk0 (Below.refl w.heap.size w);have H:((bellpullref05_Images.f k E (wrap64 ((E.length:Int) - 1))).bind fun D=>((bellpullref05_index.f F).bind fun B=>(if 0 ≤ B then (if B < (D.length:Int) then (some (rdOf false D B)) else (none)) else (none))))=some r:=h;clear h;replace H:=Option.bind_eq_some_iff.mp H;obtain ⟨D,R,H⟩:=H;(try dsimp only at H);have A3:=mk0 R;clear R;replace H:=Option.bind_eq_some_iff.mp H;obtain ⟨B,T,H⟩:=H;(try dsimp only at H);have A4:=mk0 T;clear T
 by_cases c5:0 ≤ B
 ·
  rw [if_pos c5] at H;have c5b0:decide (0 ≤ B)=true:=decide_eq_true c5;clear c5
  by_cases c6:B < (D.length:Int)
  ·
   rw [if_pos c6] at H;have c6b0:decide (B < (D.length:Int))=true:=decide_eq_true c6;clear c6;obtain rfl:=Option.some.inj H;go_enter Try.func28,Try.ntmps28;go_wp2_with (first|((with_reducible refine gate_callee (f:=62) rfl ?_);refine goesL_ (some 9) rfl rfl Try.func62 (by kernel_rfl) rfl #[.slice V E.length X,.int .i64 (wrap64 ((E.length:Int) - 1))] rfl (by (try simp only [m0_,m1_,m2_]);first|done|rfl|(simp only [l0_,l1_];rfl)) ?_;(with_reducible refine (bellpullref05_Images.calls k _ _ E (wrap64 ((E.length:Int) - 1)) D _ ?side1 ?side2 A3.1).mono ?_);(case side1=>repeat (first|exact a2.1|(with_reducible refine Kd.C_alloc ?_ _)|(with_reducible refine Kd.C_drewN ?_ _)|(with_reducible refine Kd.C_drew ?_)));(case side2=>exact a3.1);rintro e w7 ⟨b0,rfl,U,hb⟩;refine ⟨_,rfl,?_⟩;have L:=mk0 (Kd.R_lower U (below_size (by repeat (first|(with_reducible first|exact G.1|apply below_alloc|apply pw_below_drewN|apply below_drew1)|exact G.1))));replace G:=mk0 (below_step (by repeat (first|(with_reducible first|exact G.1|apply below_alloc|apply pw_below_drewN|apply below_drew1)|exact G.1)) hb);(try clear hb);(try clear U))|((with_reducible refine gate_callee (f:=63) rfl ?_);refine goesL_ (some 11) rfl rfl Try.func63 (by kernel_rfl) rfl #[.slice Y F.length Z] rfl (by (try simp only [m0_,m1_,m2_]);first|done|rfl|(simp only [l0_,l1_];rfl)) ?_;(with_reducible refine (bellpullref05_index.calls _ _ F B _ ?side1 ?side2 A4.1).mono ?_);(case side1=>repeat (first|exact (Kd.C_below a4.1 G.1)|(with_reducible refine Kd.C_alloc ?_ _)|(with_reducible refine Kd.C_drewN ?_ _)|(with_reducible refine Kd.C_drew ?_)));(case side2=>exact a5.1);rintro e w' ⟨rfl,⟨nd,rfl⟩⟩;refine ⟨_,rfl,?_⟩;obtain ⟨b1,b2,a6⟩:=Kd.R_slice L.1;subst a6;have I:0 ≤ (B:Int):=of_decide_eq_true (by first|(with_reducible assumption)|assumption);have J:B < (D.length:Int):=of_decide_eq_true (by first|(with_reducible assumption)|assumption);obtain ⟨a7,a0,a1⟩:=Kd.at_bool (Kd.R_reads' L.1).2.2 B I J;cases a0;replace I:=eq_true I;replace J:=eq_true J));go_ret;exact ⟨by first|rfl|(simp [errW_none,errW_some] <;> rfl)|(simp [*,errW_none,errW_some] <;> rfl),by repeat (first|(with_reducible first|exact G.1|apply below_alloc|apply pw_below_drewN|apply below_drew1)|exact G.1)⟩
  ·
   rw [if_neg c6] at H;exact absurd H (by simp)
 ·
  rw [if_neg c5] at H;exact absurd H (by simp)
end Go.Proofs.Ytkonljiembcdlaa.PC
namespace Go.Proofs.Ytkonljiembcdlaa.PC
open Go.Proofs.MyWords Go.RowKit Go.Proofs.YtkonljiembcdlaaW.PrintWords Go.Proofs.YtkonljiembcdlaaW.PrintLast Go.Proofs.YtkonljiembcdlaaW.PrintMore
attribute [local go_sem] max2_int min2_int max_two min_two max_three min_three max_four min_four   -- for this text's walks alone
set_option linter.unusedVariables false
set_option linter.unusedSimpArgs false
attribute [local go_sem] eqGuard_slices eqlnil23 neqnil23 eqlnil58 neqnil58
mutual
def bellpulllaw05_CountAccepts.j0:Nat → ByteArray → List Int → Bool → Int → Int → List (S98) → Bool → Option (Bool)
  | 0,_,_,_,_,_,_,_=>none
  | k + 1,x5,x6,x7,x8,x9,x10,x34=>if x34=true then (bellpulllaw05_CountAccepts.j1 k x5 x6 x7 x8 2 x10) else (bellpulllaw05_CountAccepts.j1 k x5 x6 x7 x8 x9 x10)
def bellpulllaw05_CountAccepts.j1:Nat → ByteArray → List Int → Bool → Int → Int → List (S98) → Option (Bool)
  | 0,_,_,_,_,_,_=>none
  | k + 1,x5,x6,x7,x8,x9,x10=>bellpulllaw05_CountAccepts.l0 k x5 x6 x7 x8 x9 x10 0
def bellpulllaw05_CountAccepts.l0:Nat → ByteArray → List Int → Bool → Int → Int → List (S98) → Int → Option (Bool)
  | 0,_,_,_,_,_,_,_=>none
  | k + 1,x5,x6,x7,x8,x9,x10,x12=>if x12 < (x6.length:Int) then (if 0 ≤ x12 then ((bellpullref01_In.f (rd x6 x12) 0 8).bind fun t653=>(if t653=true then (bellpulllaw05_CountAccepts.l0 k x5 x6 x7 x8 x9 x10 (wrap64 (x12 + 1))) else (bellpulllaw05_CountAccepts.l0 k x5 x6 x7 x8 1 x10 (wrap64 (x12 + 1))))) else (none)) else (if (x5.size:Int) > 30 then (bellpulllaw05_CountAccepts.j3 k x6 x7 x8 3 x10) else (bellpulllaw05_CountAccepts.j3 k x6 x7 x8 x9 x10))
def bellpulllaw05_CountAccepts.j3:Nat → List Int → Bool → Int → Int → List (S98) → Option (Bool)
  | 0,_,_,_,_,_=>none
  | k + 1,x6,x7,x8,x9,x10=>if x9=0 then ((bellpullref05_Accepts.f k x10 x6).bind fun t654=>(if x7=true then (if t654=true then (if x8=0 then ((bellpulllaw05_lives.f k).bind fun t655=>(some t655)) else (none)) else (none)) else (if t654=true then (none) else (if x8=0 then ((bellpulllaw05_lives.f k).bind fun t656=>(some t656)) else (none))))) else (if x7=true then (none) else (if x8=x9 then ((bellpulllaw05_lives.f k).bind fun t657=>(some t657)) else (none)))
end
def bellpulllaw05_CountAccepts.f (k:Nat) (a0:ByteArray) (l1:List Int):Option (Bool):=(bellpulllaw05_text.f a0).bind fun t642=>((bellpulllaw05_cut.f l1).bind fun t643=>((count_Accepts.f k t642 t643).bind fun bt646=>((bellpullref05_Parse.f k t642).bind fun bt648=>(if bt648.2=true then (bellpulllaw05_CountAccepts.j0 k t642 t643 bt646.1 bt646.2 0 bt648.1 ((t643.length:Int) != 3)) else (bellpulllaw05_CountAccepts.j0 k t642 t643 bt646.1 bt646.2 0 bt648.1 true)))))
set_option maxHeartbeats 8000000 in
set_option maxRecDepth 100000 in
theorem bellpulllaw05_CountAccepts.calls (k:Nat) (a0:ByteArray) (A1:Option Addr) (c1:Nat) (l1:List Int) (r:Bool) (w:World) (e0:Kd.C (Kd.int .i64) w A1 l1.length l1) (e1:l1.length ≤ c1) (h:bellpulllaw05_CountAccepts.f k a0 l1=some r) :
    Calls Try.prog 4 #[.string a0,.slice A1 l1.length c1] w fun e w'=>e=.returned (.bool r)∧Below w.heap.size w w':=by
 have f7:=mk0 e0;have f8:=mk0 e1;clear e0 e1;have E:=mk0 (Below.refl w.heap.size w);have H:((bellpulllaw05_text.f a0).bind fun J=>((bellpulllaw05_cut.f l1).bind fun B=>((count_Accepts.f k J B).bind fun a3=>((bellpullref05_Parse.f k J).bind fun b1=>(if b1.2=true then (bellpulllaw05_CountAccepts.j0 k J B a3.1 a3.2 0 b1.1 ((B.length:Int) != 3)) else (bellpulllaw05_CountAccepts.j0 k J B a3.1 a3.2 0 b1.1 true))))))=some r:=h;clear h;replace H:=Option.bind_eq_some_iff.mp H;obtain ⟨J,e2,H⟩:=H;(try dsimp only at H);have A3:=mk0 e2;clear e2;replace H:=Option.bind_eq_some_iff.mp H;obtain ⟨B,e3,H⟩:=H;(try dsimp only at H);have A4:=mk0 e3;clear e3;replace H:=Option.bind_eq_some_iff.mp H;obtain ⟨⟨O,I⟩,e4,H⟩:=H;(try dsimp only at H);have A5:=mk0 e4;clear e4;replace H:=Option.bind_eq_some_iff.mp H;obtain ⟨⟨M,d1⟩,e5,H⟩:=H;(try dsimp only at H);have A6:=mk0 e5;clear e5;have d2:=mk0 H;clear H;go_enter Try.func4,Try.ntmps4;go_upto_region 5 with (first|((with_reducible refine gate_callee (f:=25) rfl ?_);refine goesL_ (some 14) rfl rfl Try.func25 (by kernel_rfl) rfl #[.string a0] rfl (by (try simp only [m0_,m1_,m2_]);first|done|rfl|(simp only [l0_,l1_];rfl)) ?_;(with_reducible refine (bellpulllaw05_text.calls a0 J _ A3.1).mono ?_);rintro e w8 ⟨rfl,hb⟩;refine ⟨_,rfl,?_⟩;replace E:=mk0 (below_step (by repeat (first|(with_reducible first|exact E.1|apply below_alloc|apply pw_below_drewN|apply below_drew1)|exact E.1)) hb);(try clear hb))|((with_reducible refine gate_callee (f:=18) rfl ?_);refine goesL_ (some 16) rfl rfl Try.func18 (by kernel_rfl) rfl #[.slice A1 l1.length c1] rfl (by (try simp only [m0_,m1_,m2_]);first|done|rfl|(simp only [l0_,l1_];rfl)) ?_;(with_reducible refine (bellpulllaw05_cut.calls _ _ l1 B _ ?side1 ?side2 A4.1).mono ?_);(case side1=>repeat (first|exact (Kd.C_below f7.1 E.1)|(with_reducible refine Kd.C_alloc ?_ _)|(with_reducible refine Kd.C_drewN ?_ _)|(with_reducible refine Kd.C_drew ?_)));(case side2=>exact f8.1);rintro e w9 ⟨g8,rfl,b5,hb⟩;refine ⟨_,rfl,?_⟩;have Q:=mk0 (Kd.R_lower b5 (below_size (by repeat (first|(with_reducible first|exact E.1|apply below_alloc|apply pw_below_drewN|apply below_drew1)|exact E.1))));replace E:=mk0 (below_step (by repeat (first|(with_reducible first|exact E.1|apply below_alloc|apply pw_below_drewN|apply below_drew1)|exact E.1)) hb);(try clear hb);(try clear b5);obtain ⟨T,U,e9⟩:=Kd.R_slice Q.1;subst e9)|((with_reducible refine gate_callee (f:=26) rfl ?_);refine goesL_ (some 20) rfl rfl Try.func26 (by kernel_rfl) rfl #[.string J,.slice T B.length U] rfl (by (try simp only [m0_,m1_,m2_]);first|done|rfl|(simp only [l0_,l1_];rfl)) ?_;(with_reducible refine (count_Accepts.calls k J _ _ B O I _ ?side1 ?side2 A5.1).mono ?_);(case side1=>repeat (first|exact (Kd.R_reads' Q.1).2.2|(with_reducible refine Kd.C_alloc ?_ _)|(with_reducible refine Kd.C_drewN ?_ _)|(with_reducible refine Kd.C_drew ?_)));(case side2=>exact (Kd.R_reads' Q.1).2.1);rintro e h0 ⟨rfl,hb⟩;refine ⟨_,rfl,?_⟩;replace Q:=mk0 (Kd.R_below (by (with_reducible repeat (first|apply Kd.R_alloc|apply Kd.R_drewN|apply Kd.R_drew));exact Q.1) hb);replace E:=mk0 (below_step (by repeat (first|(with_reducible first|exact E.1|apply below_alloc|apply pw_below_drewN|apply below_drew1)|exact E.1)) hb);(try clear hb))|((with_reducible refine gate_callee (f:=27) rfl ?_);refine goesL_ (some 25) rfl rfl Try.func27 (by kernel_rfl) rfl #[.string J] rfl (by (try simp only [m0_,m1_,m2_]);first|done|rfl|(simp only [l0_,l1_];rfl)) ?_;(with_reducible refine (bellpullref05_Parse.calls k J M d1 _ A6.1).mono ?_);rintro e h1 ⟨b2,rfl,b5,hb⟩;refine ⟨_,rfl,?_⟩;have c5:=mk0 (Kd.S_lower (Kd.S_new' b5 (Kd.R_lt (by (with_reducible repeat (first|apply Kd.R_alloc|apply Kd.R_drewN|apply Kd.R_drew));exact Q.1))) (below_size (by repeat (first|(with_reducible first|exact E.1|apply below_alloc|apply pw_below_drewN|apply below_drew1)|exact E.1))));replace Q:=mk0 (Kd.R_below (by (with_reducible repeat (first|apply Kd.R_alloc|apply Kd.R_drewN|apply Kd.R_drew));exact Q.1) hb);replace E:=mk0 (below_step (by repeat (first|(with_reducible first|exact E.1|apply below_alloc|apply pw_below_drewN|apply below_drew1)|exact E.1)) hb);(try clear hb);(try clear b5)));(try simp only [Act.put,s0_,s1_,s2_]);go_cut [34] (fun f9 wc=>∃ (kq:Nat) (a4:Bool),f9=.bool a4∧Aside0 (bellpulllaw05_CountAccepts.j0 kq J B O I 0 M a4=some r)∧Aside0 (kq ≤ k)∧Aside0 (Kd.R (Kd.int .i64) 3 wc w.heap.size (fun _=>True) (.slice T B.length U) B)∧Aside0 (Kd.S k98 98 wc w.heap.size (fun k_=>some k_ ≠ ((.slice T B.length U):Value).ownBlock) b2 M)∧Aside0 (Below w.heap.size w wc));case first =>have H:=d2.1;clear d2;by_cases a1:d1=true;(· (subst a1;have L:(bellpulllaw05_CountAccepts.j0 k J B O I 0 M ((B.length:Int) != 3))=some r:=by rw [if_pos rfl] at H;exact H);clear H;have H:=L;clear L;have H':=mk0 H;clear H;go_wp2;go_meet;case rel=>exact ⟨_,(((B.length:Int) != 3)),(by first|rfl|(simp;done)|(simp [*];done)),H',⟨by first|omega|exact Nat.le_refl _⟩,⟨by (with_reducible repeat (first|apply Kd.R_alloc|apply Kd.R_drewN|apply Kd.R_drew));exact Q.1⟩,⟨by (with_reducible repeat (first|apply Kd.S_alloc|apply Kd.S_drewN|apply Kd.S_drew));exact Kd.S_mono c5.1 (fun _ hk=>hk.2)⟩,⟨by repeat (first|(with_reducible first|exact E.1|apply below_alloc|apply pw_below_drewN|apply below_drew1)|exact E.1)⟩⟩);· (replace a1:=Bool.eq_false_iff.mpr a1;subst a1;have L:(bellpulllaw05_CountAccepts.j0 k J B O I 0 M true)=some r:=by rw [if_neg (show ¬ (false=true) by decide)] at H;exact H);clear H;have H:=L;clear L;have H':=mk0 H;clear H;go_wp2;go_meet;case rel=>exact ⟨_,(true),(by first|rfl|(simp;done)|(simp [*];done)),H',⟨by first|omega|exact Nat.le_refl _⟩,⟨by (with_reducible repeat (first|apply Kd.R_alloc|apply Kd.R_drewN|apply Kd.R_drew));exact Q.1⟩,⟨by (with_reducible repeat (first|apply Kd.S_alloc|apply Kd.S_drewN|apply Kd.S_drew));exact Kd.S_mono c5.1 (fun _ hk=>hk.2)⟩,⟨by repeat (first|(with_reducible first|exact E.1|apply below_alloc|apply pw_below_drewN|apply below_drew1)|exact E.1)⟩⟩
 case rest =>
  (clear d2;try clear c1);(try clear c2);(try clear p2);(try clear c4);try clear a1
  obtain ⟨kq,a4,rfl,HA,a2,G,D,E⟩:=hcut;cases kq with
  | zero=>exact absurd HA.1 (by simp [bellpulllaw05_CountAccepts.j0])
  | succ kj6 =>
   have H:=HA.1;clear HA;simp only [bellpulllaw05_CountAccepts.j0] at H;have b8:=mk0 H;clear H;go_upto_if 34 with (fail);go_cut [9] (fun v9 wc=>∃ (kq:Nat) (a5:Int),v9=.int .i64 a5∧Aside0 (bellpulllaw05_CountAccepts.j1 kq J B O I a5 M=some r)∧Aside0 (kq ≤ kj6)∧Aside0 (Kd.R (Kd.int .i64) 3 wc w.heap.size (fun _=>True) (.slice T B.length U) B)∧Aside0 (Kd.S k98 98 wc w.heap.size (fun k_=>some k_ ≠ ((.slice T B.length U):Value).ownBlock) b2 M)∧Aside0 (Below w.heap.size w wc));case first =>have H:=b8.1;clear b8;by_cases a6:a4=true;(· (subst a6;have L:(bellpulllaw05_CountAccepts.j1 kj6 J B O I 2 M)=some r:=by rw [if_pos rfl] at H;exact H);clear H;have H:=L;clear L;have H':=mk0 H;clear H;go_wp2;go_meet;case rel=>exact ⟨_,(2),(by first|rfl|(simp;done)|(simp [*];done)),H',⟨by have:=a2.1;first|omega|exact Nat.le_refl _⟩,⟨by (with_reducible repeat (first|apply Kd.R_alloc|apply Kd.R_drewN|apply Kd.R_drew));exact G.1⟩,⟨by (with_reducible repeat (first|apply Kd.S_alloc|apply Kd.S_drewN|apply Kd.S_drew));exact D.1⟩,⟨by repeat (first|(with_reducible first|exact E.1|apply below_alloc|apply pw_below_drewN|apply below_drew1)|exact E.1)⟩⟩);· (replace a6:=Bool.eq_false_iff.mpr a6;subst a6;have L:(bellpulllaw05_CountAccepts.j1 kj6 J B O I 0 M)=some r:=by rw [if_neg (show ¬ (false=true) by decide)] at H;exact H);clear H;have H:=L;clear L;have H':=mk0 H;clear H;go_wp2;go_meet;case rel=>exact ⟨_,(0),(by first|rfl|(simp;done)|(simp [*];done)),H',⟨by have:=a2.1;first|omega|exact Nat.le_refl _⟩,⟨by (with_reducible repeat (first|apply Kd.R_alloc|apply Kd.R_drewN|apply Kd.R_drew));exact G.1⟩,⟨by (with_reducible repeat (first|apply Kd.S_alloc|apply Kd.S_drewN|apply Kd.S_drew));exact D.1⟩,⟨by repeat (first|(with_reducible first|exact E.1|apply below_alloc|apply pw_below_drewN|apply below_drew1)|exact E.1)⟩⟩
   case rest =>
    (clear b8;try clear c1);(try clear c2);(try clear p2);(try clear c4);(try clear a1);(try clear a6);try clear p2
    obtain ⟨kq,a5,rfl,HA,Y,G,D,E⟩:=hcut;cases kq with
    | zero=>exact absurd HA.1 (by simp [bellpulllaw05_CountAccepts.j1])
    | succ kj13 =>
     have H:=HA.1;clear HA;simp only [bellpulllaw05_CountAccepts.j1] at H;have H':=mk0 H;clear H;go_wp2;go_loopg [9,12] kj13 (fun kq v9 g0 w'=>∃ (Z:Int) (F:Int),v9=.int .i64 Z∧g0=.int .i64 F∧Aside0 (bellpulllaw05_CountAccepts.l0 kq J B O I Z M F=some r)∧Aside0 (kq ≤ kj13)∧Aside0 (Kd.R (Kd.int .i64) 3 w' w.heap.size (fun _=>True) (.slice T B.length U) B)∧Aside0 (Kd.S k98 98 w' w.heap.size (fun k_=>some k_ ≠ ((.slice T B.length U):Value).ownBlock) b2 M)∧Aside0 (Below w.heap.size w w'));case atStart=>exact ⟨(a5),(0),(by first|rfl|(simp;done)|(simp [*];done)),(by first|rfl|(simp;done)|(simp [*];done)),H',⟨Nat.le_refl _⟩,⟨by (with_reducible repeat (first|apply Kd.R_alloc|apply Kd.R_drewN|apply Kd.R_drew));exact G.1⟩,⟨by (with_reducible repeat (first|apply Kd.S_alloc|apply Kd.S_drewN|apply Kd.S_drew));exact D.1⟩,⟨by repeat (first|(with_reducible first|exact E.1|apply below_alloc|apply pw_below_drewN|apply below_drew1)|exact E.1)⟩⟩
     case round =>
      (clear H';try clear c1);(try clear c2);(try clear p2);(try clear c4);(try clear a1);(try clear a6);try clear p2
      obtain ⟨Z,F,rfl,rfl,HA,a9,G,D,E⟩:=hrel;cases gk with
      | zero=>exact absurd HA.1 (by simp [bellpulllaw05_CountAccepts.l0])
      | succ k3 =>
       have H:=HA.1;clear HA;simp only [bellpulllaw05_CountAccepts.l0] at H;by_cases c16:F < (B.length:Int);· rw [if_pos c16] at H;have c16b0:decide (F < (B.length:Int))=true:=decide_eq_true c16;clear c16;by_cases c17:0 ≤ F;(· rw [if_pos c17] at H;have c17b0:decide (0 ≤ F)=true:=decide_eq_true c17;clear c17;replace H:=Option.bind_eq_some_iff.mp H;obtain ⟨f0,d4,H⟩:=H;(try dsimp only at H);have e6:=mk0 d4;clear d4;by_cases b6:f0=true;(· (subst b6;have L:(bellpulllaw05_CountAccepts.l0 k3 J B O I Z M (wrap64 (F + 1)))=some r:=by rw [if_pos rfl] at H;exact H);clear H;have H:=L;clear L;have H':=mk0 H;clear H;have V:0 ≤ (F:Int):=of_decide_eq_true (by first|(with_reducible assumption)|assumption);have X:F < (B.length:Int):=of_decide_eq_true (by first|(with_reducible assumption)|assumption);obtain ⟨d9,b9,b0⟩:=Kd.at_int (Kd.R_reads' G.1).2.2 F V X;cases b9;replace V:=eq_true V;replace X:=eq_true X;go_wp2_with (first|((with_reducible refine gate_callee (f:=20) rfl ?_);refine goesL_ (some 45) rfl rfl Try.func20 (by kernel_rfl) rfl #[.int .i64 (rd B F),.int .i64 0,.int .i64 8] rfl (by (try simp only [m0_,m1_,m2_]);first|done|rfl|(simp only [l0_,l1_];rfl)) ?_;(with_reducible refine (bellpullref01_In.calls (rd B F) 0 8 true _ e6.1).mono ?_);rintro e w' ⟨rfl,⟨nd,rfl⟩⟩;refine ⟨_,rfl,?_⟩));go_roundg k3;(case measure=>have:=a2.1;have:=Y.1;have:=a9.1;omega);case rel=>exact ⟨(Z),(wrap64 (F + 1)),(by first|rfl|(simp;done)|(simp [*];done)),(by first|rfl|(simp;done)|(simp [*];done)),H',⟨by have:=a2.1;have:=Y.1;have:=a9.1;omega⟩,⟨by (with_reducible repeat (first|apply Kd.R_alloc|apply Kd.R_drewN|apply Kd.R_drew));exact G.1⟩,⟨by (with_reducible repeat (first|apply Kd.S_alloc|apply Kd.S_drewN|apply Kd.S_drew));exact D.1⟩,⟨by repeat (first|(with_reducible first|exact E.1|apply below_alloc|apply pw_below_drewN|apply below_drew1)|exact E.1)⟩⟩);· (replace b6:=Bool.eq_false_iff.mpr b6;subst b6;have L:(bellpulllaw05_CountAccepts.l0 k3 J B O I 1 M (wrap64 (F + 1)))=some r:=by rw [if_neg (show ¬ (false=true) by decide)] at H;exact H);clear H;have H:=L;clear L;have H':=mk0 H;clear H;have V:0 ≤ (F:Int):=of_decide_eq_true (by first|(with_reducible assumption)|assumption);have X:F < (B.length:Int):=of_decide_eq_true (by first|(with_reducible assumption)|assumption);obtain ⟨d9,b9,b0⟩:=Kd.at_int (Kd.R_reads' G.1).2.2 F V X;cases b9;replace V:=eq_true V;replace X:=eq_true X;go_wp2_with (first|((with_reducible refine gate_callee (f:=20) rfl ?_);refine goesL_ (some 45) rfl rfl Try.func20 (by kernel_rfl) rfl #[.int .i64 (rd B F),.int .i64 0,.int .i64 8] rfl (by (try simp only [m0_,m1_,m2_]);first|done|rfl|(simp only [l0_,l1_];rfl)) ?_;(with_reducible refine (bellpullref01_In.calls (rd B F) 0 8 false _ e6.1).mono ?_);rintro e w' ⟨rfl,⟨nd,rfl⟩⟩;refine ⟨_,rfl,?_⟩));go_roundg k3;(case measure=>have:=a2.1;have:=Y.1;have:=a9.1;omega);case rel=>exact ⟨(1),(wrap64 (F + 1)),(by first|rfl|(simp;done)|(simp [*];done)),(by first|rfl|(simp;done)|(simp [*];done)),H',⟨by have:=a2.1;have:=Y.1;have:=a9.1;omega⟩,⟨by (with_reducible repeat (first|apply Kd.R_alloc|apply Kd.R_drewN|apply Kd.R_drew));exact G.1⟩,⟨by (with_reducible repeat (first|apply Kd.S_alloc|apply Kd.S_drewN|apply Kd.S_drew));exact D.1⟩,⟨by repeat (first|(with_reducible first|exact E.1|apply below_alloc|apply pw_below_drewN|apply below_drew1)|exact E.1)⟩⟩);· rw [if_neg c17] at H;exact absurd H (by simp)
       ·
        rw [if_neg c16] at H;have c16b0:decide (F < (B.length:Int))=false:=decide_eq_false c16;clear c16;have c0:=mk0 H;clear H;go_upto_if 49 with (fail);go_cut [9] (fun v9 wc=>∃ (kq:Nat) (N:Int),v9=.int .i64 N∧Aside0 (bellpulllaw05_CountAccepts.j3 kq B O I N M=some r)∧Aside0 (kq ≤ k3)∧Aside0 (Kd.R (Kd.int .i64) 3 wc w.heap.size (fun _=>True) (.slice T B.length U) B)∧Aside0 (Kd.S k98 98 wc w.heap.size (fun k_=>some k_ ≠ ((.slice T B.length U):Value).ownBlock) b2 M)∧Aside0 (Below w.heap.size w wc));case first =>have H:=c0.1;clear c0;by_cases c21:(J.size:Int) > 30;(· rw [if_pos c21] at H;have c21b0:decide (30 < (J.size:Int))=true:=decide_eq_true c21;have c21b1:decide (30 < J.size)=true:=decide_eq_true (by omega);clear c21;(first|rw [c21b0]|(simp only [i64_w,i32_w];rw [c21b0])|skip);have H':=mk0 H;clear H;go_wp2;go_meet;case rel=>exact ⟨_,(3),(by first|rfl|(simp;done)|(simp [*];done)),H',⟨by have:=a2.1;have:=Y.1;have:=a9.1;first|omega|exact Nat.le_refl _⟩,⟨by (with_reducible repeat (first|apply Kd.R_alloc|apply Kd.R_drewN|apply Kd.R_drew));exact G.1⟩,⟨by (with_reducible repeat (first|apply Kd.S_alloc|apply Kd.S_drewN|apply Kd.S_drew));exact D.1⟩,⟨by repeat (first|(with_reducible first|exact E.1|apply below_alloc|apply pw_below_drewN|apply below_drew1)|exact E.1)⟩⟩);· rw [if_neg c21] at H;have c21b0:decide (30 < (J.size:Int))=false:=decide_eq_false c21;have c21b1:decide (30 < J.size)=false:=decide_eq_false (by omega);clear c21;(first|rw [c21b0]|(simp only [i64_w,i32_w];rw [c21b0])|skip);have H':=mk0 H;clear H;go_wp2;go_meet;case rel=>exact ⟨_,(Z),(by first|rfl|(simp;done)|(simp [*];done)),H',⟨by have:=a2.1;have:=Y.1;have:=a9.1;first|omega|exact Nat.le_refl _⟩,⟨by (with_reducible repeat (first|apply Kd.R_alloc|apply Kd.R_drewN|apply Kd.R_drew));exact G.1⟩,⟨by (with_reducible repeat (first|apply Kd.S_alloc|apply Kd.S_drewN|apply Kd.S_drew));exact D.1⟩,⟨by repeat (first|(with_reducible first|exact E.1|apply below_alloc|apply pw_below_drewN|apply below_drew1)|exact E.1)⟩⟩
        case rest =>
         (clear c0;try clear c1);(try clear c2);(try clear p2);(try clear c4);(try clear p6);(try clear q6);(try clear hx6);(try clear a1);(try clear a6);(try clear c16);(try clear c16b0);(try clear c17);(try clear c17b0);(try clear c18);(try clear b6);(try clear c20);(try clear c21);(try clear c21b0);(try clear c21b1);(try clear b0);(try clear p2);(try clear V);try clear X
         obtain ⟨kq,N,rfl,HA,g9,G,D,E⟩:=hcut;cases kq with
         | zero=>exact absurd HA.1 (by simp [bellpulllaw05_CountAccepts.j3])
         | succ kj19 =>have H:=HA.1;clear HA;simp only [bellpulllaw05_CountAccepts.j3] at H;by_cases c22:N=0;(· rw [if_pos c22] at H;have c22b0:(N == 0)=true:=beq_iff_eq.mpr c22;have c22b1:(N != 0)=false:=bne_eq_false_iff_eq.mpr c22;clear c22;replace H:=Option.bind_eq_some_iff.mp H;obtain ⟨b3,d5,H⟩:=H;(try dsimp only at H);have e7:=mk0 d5;clear d5;by_cases c6:O=true;(· (subst c6;have L:(if b3=true then (if I=0 then ((bellpulllaw05_lives.f kj19).bind fun a7=>(some a7)) else (none)) else (none))=some r:=by rw [if_pos rfl] at H;exact H);clear H;have H:=L;clear L;by_cases c7:b3=true;(· (subst c7;have L:(if I=0 then ((bellpulllaw05_lives.f kj19).bind fun a7=>(some a7)) else (none))=some r:=by rw [if_pos rfl] at H;exact H);clear H;have H:=L;clear L;by_cases c26:I=0;(· rw [if_pos c26] at H;have c26b0:(I == 0)=true:=beq_iff_eq.mpr c26;have c26b1:(I != 0)=false:=bne_eq_false_iff_eq.mpr c26;clear c26;replace H:=Option.bind_eq_some_iff.mp H;obtain ⟨a7,d6,H⟩:=H;(try dsimp only at H);have g1:=mk0 d6;clear d6;obtain rfl:=Option.some.inj H;obtain ⟨f1,f2,f3⟩:=Kd.S_slice D.1;subst f3;go_wp2_with (first|((with_reducible refine gate_callee (f:=28) rfl ?_);refine goesL_ (some 65) rfl rfl Try.func28 (by kernel_rfl) rfl #[.slice f1 M.length f2,.slice T B.length U] rfl (by (try simp only [m0_,m1_,m2_]);first|done|rfl|(simp only [l0_,l1_];rfl)) ?_;(with_reducible refine (bellpullref05_Accepts.calls kj19 _ _ M _ _ B true _ ?side1 ?side2 ?side3 ?side4 e7.1).mono ?_);(case side1=>repeat (first|exact (Kd.S_reads' D.1).2.2|(with_reducible refine Kd.C_alloc ?_ _)|(with_reducible refine Kd.C_drewN ?_ _)|(with_reducible refine Kd.C_drew ?_)));(case side2=>exact (Kd.S_reads' D.1).2.1);(case side3=>repeat (first|exact (Kd.R_reads' G.1).2.2|(with_reducible refine Kd.C_alloc ?_ _)|(with_reducible refine Kd.C_drewN ?_ _)|(with_reducible refine Kd.C_drew ?_)));(case side4=>exact (Kd.R_reads' G.1).2.1);rintro e h2 ⟨rfl,hb⟩;refine ⟨_,rfl,?_⟩;replace G:=mk0 (Kd.R_below (by (with_reducible repeat (first|apply Kd.R_alloc|apply Kd.R_drewN|apply Kd.R_drew));exact G.1) hb);replace D:=mk0 (Kd.S_below (by (with_reducible repeat (first|apply Kd.S_alloc|apply Kd.S_drewN|apply Kd.S_drew));exact D.1) hb);replace E:=mk0 (below_step (by repeat (first|(with_reducible first|exact E.1|apply below_alloc|apply pw_below_drewN|apply below_drew1)|exact E.1)) hb);(try clear hb))|(go_at_call 22;(with_reducible refine (bellpulllaw05_lives.calls kj19  a7 _ g1.1).mono ?_);rintro e h3 ⟨rfl,hb⟩;replace G:=mk0 (Kd.R_below (by (with_reducible repeat (first|apply Kd.R_alloc|apply Kd.R_drewN|apply Kd.R_drew));exact G.1) hb);replace D:=mk0 (Kd.S_below (by (with_reducible repeat (first|apply Kd.S_alloc|apply Kd.S_drewN|apply Kd.S_drew));exact D.1) hb);replace E:=mk0 (below_step (by repeat (first|(with_reducible first|exact E.1|apply below_alloc|apply pw_below_drewN|apply below_drew1)|exact E.1)) hb);(try clear hb)));go_ret;exact ⟨by first|rfl|(simp [errW_none,errW_some] <;> rfl)|(simp [*,errW_none,errW_some] <;> rfl),by repeat (first|(with_reducible first|exact E.1|apply below_alloc|apply pw_below_drewN|apply below_drew1)|exact E.1)⟩);· rw [if_neg c26] at H;exact absurd H (by simp));· (replace c7:=Bool.eq_false_iff.mpr c7;subst c7;have L:(none)=some r:=by rw [if_neg (show ¬ (false=true) by decide)] at H;exact H);clear H;have H:=L;clear L;exact absurd H (by simp));· (replace c6:=Bool.eq_false_iff.mpr c6;subst c6;have L:(if b3=true then (none) else (if I=0 then ((bellpulllaw05_lives.f kj19).bind fun a8=>(some a8)) else (none)))=some r:=by rw [if_neg (show ¬ (false=true) by decide)] at H;exact H);clear H;have H:=L;clear L;by_cases c8:b3=true;(· (subst c8;have L:(none)=some r:=by rw [if_pos rfl] at H;exact H);clear H;have H:=L;clear L;exact absurd H (by simp));· (replace c8:=Bool.eq_false_iff.mpr c8;subst c8;have L:(if I=0 then ((bellpulllaw05_lives.f kj19).bind fun a8=>(some a8)) else (none))=some r:=by rw [if_neg (show ¬ (false=true) by decide)] at H;exact H);clear H;have H:=L;clear L;by_cases c32:I=0;(· rw [if_pos c32] at H;have c32b0:(I == 0)=true:=beq_iff_eq.mpr c32;have c32b1:(I != 0)=false:=bne_eq_false_iff_eq.mpr c32;clear c32;replace H:=Option.bind_eq_some_iff.mp H;obtain ⟨a8,d7,H⟩:=H;(try dsimp only at H);have g2:=mk0 d7;clear d7;obtain rfl:=Option.some.inj H;obtain ⟨f4,f5,f6⟩:=Kd.S_slice D.1;subst f6;go_wp2_with (first|((with_reducible refine gate_callee (f:=28) rfl ?_);refine goesL_ (some 65) rfl rfl Try.func28 (by kernel_rfl) rfl #[.slice f4 M.length f5,.slice T B.length U] rfl (by (try simp only [m0_,m1_,m2_]);first|done|rfl|(simp only [l0_,l1_];rfl)) ?_;(with_reducible refine (bellpullref05_Accepts.calls kj19 _ _ M _ _ B false _ ?side1 ?side2 ?side3 ?side4 e7.1).mono ?_);(case side1=>repeat (first|exact (Kd.S_reads' D.1).2.2|(with_reducible refine Kd.C_alloc ?_ _)|(with_reducible refine Kd.C_drewN ?_ _)|(with_reducible refine Kd.C_drew ?_)));(case side2=>exact (Kd.S_reads' D.1).2.1);(case side3=>repeat (first|exact (Kd.R_reads' G.1).2.2|(with_reducible refine Kd.C_alloc ?_ _)|(with_reducible refine Kd.C_drewN ?_ _)|(with_reducible refine Kd.C_drew ?_)));(case side4=>exact (Kd.R_reads' G.1).2.1);rintro e h4 ⟨rfl,hb⟩;refine ⟨_,rfl,?_⟩;replace G:=mk0 (Kd.R_below (by (with_reducible repeat (first|apply Kd.R_alloc|apply Kd.R_drewN|apply Kd.R_drew));exact G.1) hb);replace D:=mk0 (Kd.S_below (by (with_reducible repeat (first|apply Kd.S_alloc|apply Kd.S_drewN|apply Kd.S_drew));exact D.1) hb);replace E:=mk0 (below_step (by repeat (first|(with_reducible first|exact E.1|apply below_alloc|apply pw_below_drewN|apply below_drew1)|exact E.1)) hb);(try clear hb))|(go_at_call 22;(with_reducible refine (bellpulllaw05_lives.calls kj19  a8 _ g2.1).mono ?_);rintro e h5 ⟨rfl,hb⟩;replace G:=mk0 (Kd.R_below (by (with_reducible repeat (first|apply Kd.R_alloc|apply Kd.R_drewN|apply Kd.R_drew));exact G.1) hb);replace D:=mk0 (Kd.S_below (by (with_reducible repeat (first|apply Kd.S_alloc|apply Kd.S_drewN|apply Kd.S_drew));exact D.1) hb);replace E:=mk0 (below_step (by repeat (first|(with_reducible first|exact E.1|apply below_alloc|apply pw_below_drewN|apply below_drew1)|exact E.1)) hb);(try clear hb)));go_ret;exact ⟨by first|rfl|(simp [errW_none,errW_some] <;> rfl)|(simp [*,errW_none,errW_some] <;> rfl),by repeat (first|(with_reducible first|exact E.1|apply below_alloc|apply pw_below_drewN|apply below_drew1)|exact E.1)⟩);· rw [if_neg c32] at H;exact absurd H (by simp));· rw [if_neg c22] at H;have c22b0:(N == 0)=false:=beq_eq_false_iff_ne.mpr c22;have c22b1:(N != 0)=true:=bne_iff_ne.mpr c22;by_cases c9:O=true;(· (subst c9;have L:(none)=some r:=by rw [if_pos rfl] at H;exact H);clear H;have H:=L;clear L;exact absurd H (by simp));· (replace c9:=Bool.eq_false_iff.mpr c9;subst c9;have L:(if I=N then ((bellpulllaw05_lives.f kj19).bind fun c3=>(some c3)) else (none))=some r:=by rw [if_neg (show ¬ (false=true) by decide)] at H;exact H);clear H;have H:=L;clear L;by_cases c38:I=N;(· rw [if_pos c38] at H;have c38b0:(I == N)=true:=beq_iff_eq.mpr c38;have c38b1:(I != N)=false:=bne_eq_false_iff_eq.mpr c38;clear c38;replace H:=Option.bind_eq_some_iff.mp H;obtain ⟨c3,d8,H⟩:=H;(try dsimp only at H);have g3:=mk0 d8;clear d8;obtain rfl:=Option.some.inj H;go_wp2_with (first|(go_at_call 22;(with_reducible refine (bellpulllaw05_lives.calls kj19  c3 _ g3.1).mono ?_);rintro e h6 ⟨rfl,hb⟩;replace G:=mk0 (Kd.R_below (by (with_reducible repeat (first|apply Kd.R_alloc|apply Kd.R_drewN|apply Kd.R_drew));exact G.1) hb);replace D:=mk0 (Kd.S_below (by (with_reducible repeat (first|apply Kd.S_alloc|apply Kd.S_drewN|apply Kd.S_drew));exact D.1) hb);replace E:=mk0 (below_step (by repeat (first|(with_reducible first|exact E.1|apply below_alloc|apply pw_below_drewN|apply below_drew1)|exact E.1)) hb);(try clear hb)));go_ret;exact ⟨by first|rfl|(simp [errW_none,errW_some] <;> rfl)|(simp [*,errW_none,errW_some] <;> rfl),by repeat (first|(with_reducible first|exact E.1|apply below_alloc|apply pw_below_drewN|apply below_drew1)|exact E.1)⟩);· rw [if_neg c38] at H;exact absurd H (by simp)
def bellpulllaw05_CountAccepts.Pure:Prop:=∀ (a0:ByteArray) (l1:List Int),a0.size ≤ 140737488351232 → l1.length ≤ maxLen → l1.length * 8 ≤ 140737488351232 → (∀ x ∈ l1,(Lit.int .i64 x).wf=true) → ∃ k,bellpulllaw05_CountAccepts.f k a0 l1=some true
theorem bellpulllaw05_CountAccepts.walk (P:bellpulllaw05_CountAccepts.Pure) (a0:ByteArray) (a1:Option Addr) (len1 cap1:Nat) (z1:List Int) (w:World) (w0:a0.size ≤ 140737488351232) (w1:(a1=none∧len1=0∧cap1=0∧z1=[]) ∨ ∃ x,a1=some x∧len1 ≤ cap1∧cap1 ≤ maxLen∧z1.length=cap1∧(∀ i,i < z1.length → w.cell? (x.add i)=some (.int .i64 (z1.getD i 0)))∧∀ n ∈ z1,(Lit.int .i64 n).wf=true) (y1:len1 * 8 ≤ 140737488351232) :
    Calls Try.prog 4 #[.string a0,.slice a1 len1 cap1] w fun e w'=>e=.returned (.bool true)∧Below w.heap.size w w':=by
  obtain ⟨l1,rfl,hr1,hm1,hw1,hc1⟩:=ReadsInt.ofRowC w1;obtain ⟨k,h⟩:=P a0 l1 w0 hm1 y1 hw1;refine (bellpulllaw05_CountAccepts.calls k a0 _ _ l1 true w (Kd.C_of_reads (d:=(0:Int)) (h1:=fun _=>rfl) hr1) hc1 h).mono ?_;rintro e w' ⟨rfl,hd⟩;exact ⟨rfl,hd⟩
end Go.Proofs.Ytkonljiembcdlaa.PC
/- Well-formed expressions run to one value, in plain Lean. -/
namespace Go.Proofs.Mach
variable {M:Type} (letter:Int → Option M) (join either:M → M → Option M) (star:M → Option M)
structure Total (G:M → Prop):Prop where
  l:∀ i,(i=0 ∨ i=1 ∨ i=2 ∨ i=-1) → ∃ x,letter i=some x∧G x
  j:∀ a b,G a → G b → ∃ x,join a b=some x∧G x
  e:∀ a b,G a → G b → ∃ x,either a b=some x∧G x
  s:∀ a,G a → ∃ x,star a=some x∧G x
end Go.Proofs.Mach
/- Accepts of well-formed expressions, in plain Lean. -/
namespace Go.Proofs.Ytkonljiembcdlaa.PC
open Go.Proofs.MyWords Go.RowKit Go.Proofs.YtkonljiembcdlaaW.PrintWords Go.Proofs.YtkonljiembcdlaaW.PrintLast Go.Proofs.YtkonljiembcdlaaW.PrintMore
set_option linter.unusedVariables false
set_option linter.unusedSimpArgs false
def GoodL (m:FoundW.V3) (L:List FoundW.V3):Prop:=L.Nodup∧∀ s,s ∈ L → good3 m s
theorem GoodL.len {m:FoundW.V3} {L:List FoundW.V3} (hm:mok m) (h:GoodL m L):L.length ≤ 729:=by
  rw [← boxL_len]
  exact nodup_len3 L boxL h.1 (fun s hs=>mem_boxL ((h.2 s hs).mok hm))
theorem fStar_some (m:FoundW.V3) (hm:mok m) (A:List FoundW.V3) (hA:GoodL m A):∀ (n k:Nat) (O:List FoundW.V3),GoodL m O → 729 - O.length ≤ n → n < k → ∃ r,fStar m A k O=some r∧GoodL m r
  | n,0,O,hO,hn,hk=>by omega
  | n,k + 1,O,hO,hn,hk=>by
    rw [fStar]
    by_cases h:(fBoth O (fJoin m O A)).length=O.length
    · exact ⟨O,by rw [if_pos h],hO⟩
    · rw [if_neg h]
      have hN:GoodL m (fBoth O (fJoin m O A)):=⟨dd_nodup _,fBoth_good hO.2 (fJoin_good hO.2 hA.2)⟩
      have h1:=fBoth_len O (fJoin m O A) hO.1
      have h2:=hN.len hm
      match n,hn,hk with
      | 0,hn,hk=>omega
      | n + 1,hn,hk=>exact fStar_some m hm A hA n k _ hN (by omega) (by omega)
theorem runF_total (m:FoundW.V3) (hm:mok m) (k:Nat) (hk:730 ≤ k):Mach.Total (fun i=>some (fLetter m i)) (fun a b=>some (fJoin m a b)) (fun a b=>some (fBoth a b)) (fun a=>fStar m a k [(0,0,0)]) (GoodL m) where
  l:=fun i _=>⟨_,rfl,by
    refine ⟨?_,fLetter_good m i⟩
    unfold fLetter
    exact List.Sublist.nodup (List.filter_sublist) (by simp)⟩
  j:=fun a b ha hb=>⟨_,rfl,dd_nodup _,fJoin_good ha.2 hb.2⟩
  e:=fun a b ha hb=>⟨_,rfl,dd_nodup _,fBoth_good ha.2 hb.2⟩
  s:=fun a ha=>fStar_some m hm a ha 729 k _ ⟨by simp,zero_good hm⟩ (by omega) (by omega)
theorem mok_v3 {l:List Int} (hl:l.length=3) (hv:∀ x,x ∈ l → 0 ≤ x∧x ≤ 8):mok (v3of l):=by
  match l,hl with
  | [a,b,c],_=>exact ⟨hv a (by simp),hv b (by simp),hv c (by simp)⟩
end Go.Proofs.Ytkonljiembcdlaa.PC
/- Small tools for statements of the form 'with enough rounds the answer is r'. -/
set_option linter.unusedVariables false
set_option linter.unusedSimpArgs false
namespace Go.Proofs.Ytkonljiembcdlaa.Pure
open Go.RowKit Go.Proofs.YtkonljiembcdlaaW.PrintWords
theorem wrap_id {x:Int} (h0:-9223372036854775808 ≤ x) (h1:x ≤ 9223372036854775807):wrap64 x=x:=by
  unfold wrap64;omega
section
variable {α β:Type} {g a b:Nat → Option α} {r:α}
theorem Ev.rounds (h:Ev g r):∃ k,g k=some r:=by
  obtain ⟨K,hK⟩:=h
  exact ⟨K,hK K (Nat.le_refl _)⟩
theorem Ev.succ (h:Ev (fun k=>g (k + 1)) r):Ev g r:=Ev.step (fun _=>rfl) h
theorem Ev.pos {c:Prop} [Decidable c] (hc:c) (h:Ev a r):Ev (fun k=>if c then a k else b k) r:=by
  simpa only [if_pos hc] using h
theorem Ev.neg {c:Prop} [Decidable c] (hc:¬ c) (h:Ev b r):Ev (fun k=>if c then a k else b k) r:=by
  simpa only [if_neg hc] using h
theorem Ev.bindc {o:Option β} {f:Nat → β → Option α} {x:β} (ho:o=some x) (h:Ev (fun k=>f k x) r):Ev (fun k=>o.bind (f k)) r:=by
  subst ho;simpa only [Option.bind_some] using h
end
theorem rd_app (pre:List Int) (x:Int) (t:List Int):rd (pre ++ x :: t) (pre.length:Int)=x:=by
  simp [rd,List.getD_eq_getElem?_getD]
end Go.Proofs.Ytkonljiembcdlaa.Pure
/- What an expression says, and machines that do the same with values of some kind, in plain Lean. -/
set_option linter.unusedVariables false
namespace Go.Proofs.Mach
open Go.RowKit Go.Proofs.YtkonljiembcdlaaW.PrintWords Go.Proofs.Ytkonljiembcdlaa.Pure
inductive Ex|l (i:Int)|j (a b:Ex)|e (a b:Ex)|s (a:Ex)
def Ex.size:Ex → Nat
  | .l _=>1
  | .j a b=>a.size + b.size + 1
  | .e a b=>a.size + b.size + 1
  | .s a=>a.size + 1
def sizes (es:List Ex):Nat:=(es.map Ex.size).sum
theorem sizes_app (s t:List Ex):sizes (s ++ t)=sizes s + sizes t:=by unfold sizes;simp
def runX:List UInt8 → List Ex → Option (Option Ex):=run (fun i=>some (Ex.l i)) (fun a b=>some (Ex.j a b)) (fun a b=>some (Ex.e a b)) (fun a=>some (Ex.s a))
inductive Rel2 {A B:Type} (R:A → B → Prop):List A → List B → Prop
  | nil:Rel2 R [] []
  | cons {a b s t}:R a b → Rel2 R s t → Rel2 R (a :: s) (b :: t)
section
variable {A B:Type} {R:A → B → Prop}
theorem Rel2.len {s:List A} {t:List B} (h:Rel2 R s t):s.length=t.length:=by
  induction h with
  | nil=>rfl
  | cons _ _ ih=>simp [ih]
theorem Rel2.snoc {s:List A} {t:List B} {a:A} {b:B} (h:Rel2 R s t) (hr:R a b):Rel2 R (s ++ [a]) (t ++ [b]):=by
  induction h with
  | nil=>exact .cons hr .nil
  | cons h1 _ ih=>exact .cons h1 ih
theorem Rel2.last:∀ {s:List A} {t:List B} {a:A},Rel2 R (s ++ [a]) t → ∃ t' b,t=t' ++ [b]∧Rel2 R s t'∧R a b
  | [],_,a,.cons h .nil=>⟨[],_,rfl,.nil,h⟩
  | x :: s,_,a,.cons h r=>by
    obtain ⟨t',b,rfl,h1,h2⟩:=Rel2.last r
    exact ⟨_ :: t',b,rfl,.cons h h1,h2⟩
theorem Rel2.last2 {s:List A} {t:List B} {a a':A} (h:Rel2 R (s ++ [a,a']) t):∃ t' b b',t=t' ++ [b,b']∧Rel2 R s t'∧R a b∧R a' b':=by
  have h1:Rel2 R ((s ++ [a]) ++ [a']) t:=by simpa using h
  obtain ⟨t1,b',rfl,h2,h3⟩:=h1.last
  obtain ⟨t2,b,rfl,h4,h5⟩:=h2.last
  exact ⟨t2,b,b',by simp,h4,h5,h3⟩
theorem Rel2.mono {R':A → B → Prop} {s:List A} {t:List B} (h:Rel2 R s t) (hr:∀ a b,R a b → R' a b):Rel2 R' s t:=by
  induction h with
  | nil=>exact .nil
  | cons h1 _ ih=>exact .cons (hr _ _ h1) ih
end
section
variable {M:Type} (letter:Nat → Int → Option M) (join either:Nat → M → M → Option M) (star:Nat → M → Option M)
structure Sim (N:Nat) (R:Ex → M → Prop):Prop where
  l:∀ i,(i=0 ∨ i=1 ∨ i=2 ∨ i=-1) → ∃ x,Ev (fun k=>letter k i) x∧R (.l i) x
  j:∀ a b x y,a.size + b.size + 1 ≤ N → R a x → R b y → ∃ z,Ev (fun k=>join k x y) z∧R (.j a b) z
  e:∀ a b x y,a.size + b.size + 1 ≤ N → R a x → R b y → ∃ z,Ev (fun k=>either k x y) z∧R (.e a b) z
  s:∀ a x,a.size + 1 ≤ N → R a x → ∃ z,Ev (fun k=>star k x) z∧R (.s a) z
def Told (R:Ex → M → Prop) (c:List UInt8) (xs:List M):Option Ex → Prop
  | none=>Ev (fun k=>run (letter k) (join k) (either k) (star k) c xs) none
  | some e=>∃ x,Ev (fun k=>run (letter k) (join k) (either k) (star k) c xs) (some x)∧R e x
theorem signs7 (c:UInt8):c=97 ∨ c=98 ∨ c=99 ∨ c=101 ∨ c=46 ∨ c=43 ∨ c=42 ∨ (c ≠ 97∧c ≠ 98∧c ≠ 99∧c ≠ 101∧c ≠ 46∧c ≠ 43∧c ≠ 42):=by
  by_cases h1:c=97
  · exact .inl h1
  by_cases h2:c=98
  · exact .inr (.inl h2)
  by_cases h3:c=99
  · exact .inr (.inr (.inl h3))
  by_cases h4:c=101
  · exact .inr (.inr (.inr (.inl h4)))
  by_cases h5:c=46
  · exact .inr (.inr (.inr (.inr (.inl h5))))
  by_cases h6:c=43
  · exact .inr (.inr (.inr (.inr (.inr (.inl h6)))))
  by_cases h7:c=42
  · exact .inr (.inr (.inr (.inr (.inr (.inr (.inl h7))))))
  · exact .inr (.inr (.inr (.inr (.inr (.inr (.inr ⟨h1,h2,h3,h4,h5,h6,h7⟩))))))
variable {letter join either star}
theorem Told.go {R:Ex → M → Prop} {c:UInt8} {r:List UInt8} {xs ys:List M} {o:Option Ex} (hs:Ev (fun k=>step (letter k) (join k) (either k) (star k) c xs) (some ys)) (h:Told letter join either star R r ys o):Told letter join either star R (c :: r) xs o:=by
  have key:∀ q,Ev (fun k=>run (letter k) (join k) (either k) (star k) r ys) q → Ev (fun k=>run (letter k) (join k) (either k) (star k) (c :: r) xs) q:=fun q hq=>by
    obtain ⟨K1,h1⟩:=hs
    obtain ⟨K2,h2⟩:=hq
    refine ⟨K1 + K2,fun k hk=>?_⟩
    have e1:=h1 k (by omega)
    have e2:=h2 k (by omega)
    simp only at e1 e2 ⊢
    rw [run,e1]
    exact e2
  cases o with
  | none=>exact key _ h
  | some e =>
    obtain ⟨x,h1,h2⟩:=h
    exact ⟨x,key _ h1,h2⟩
theorem Told.stop {R:Ex → M → Prop} {c:UInt8} {r:List UInt8} {xs:List M} (hs:∀ k,step (letter k) (join k) (either k) (star k) c xs=some none):Told letter join either star R (c :: r) xs none :=
  ⟨0,fun k _=>by simp only;rw [run,hs k];rfl⟩
theorem sim {N:Nat} {R:Ex → M → Prop} (S:Sim letter join either star N R):∀ (c:List UInt8) (es:List Ex) (xs:List M),sizes es + c.length ≤ N → Rel2 R es xs → ∃ o,runX c es=some o∧Told letter join either star R c xs o
  | [],es,xs,hz,h=>by
    match es,xs,h with
    | [],[],_=>exact ⟨none,rfl,0,fun _ _=>rfl⟩
    | [e],[x],.cons h .nil=>exact ⟨some e,rfl,x,⟨0,fun _ _=>rfl⟩,h⟩
    | e :: e' :: es,x :: x' :: xs,_=>exact ⟨none,rfl,0,fun _ _=>rfl⟩
  | c :: r,es,xs,hz,h=>by
    have up:∀ {es':List Ex} {ys:List M},sizes es' + r.length ≤ N → runX (c :: r) es=runX r es' → Ev (fun k=>step (letter k) (join k) (either k) (star k) c xs) (some ys) → Rel2 R es' ys → ∃ o,runX (c :: r) es=some o∧Told letter join either star R (c :: r) xs o:=fun hz2 he hs hr=>by
      obtain ⟨o,h1,h2⟩:=sim S r _ _ hz2 hr
      exact ⟨o,he.trans h1,h2.go hs⟩
    have lt:∀ i,(c=97∧i=0 ∨ c=98∧i=1 ∨ c=99∧i=2 ∨ c=101∧i=-1) → ∃ o,runX (c :: r) es=some o∧Told letter join either star R (c :: r) xs o:=fun i hi=>by
      obtain ⟨x,⟨K,hK⟩,hx⟩:=S.l i (by rcases hi with h|h|h|h <;> simp [h.2])
      refine up (es':=es ++ [.l i]) (ys:=xs ++ [x]) (by rw [sizes_app];simp [sizes,Ex.size] at hz ⊢;omega) ?_ ⟨K,fun k hk=>?_⟩ (h.snoc hx)
      · unfold runX;rw [run,step_letter _ _ _ _ hi];rfl
      · have e:=hK k hk
        simp only at e ⊢
        rw [step_letter _ _ _ _ hi,e];rfl
    have few:(c=46 ∨ c=43)∧es.length < 2 ∨ c=42∧es.length < 1 → ∃ o,runX (c :: r) es=some o∧Told letter join either star R (c :: r) xs o:=fun hf=>by
      refine ⟨none,?_,Told.stop (fun k=>step_few _ _ _ _ (by rw [← h.len];exact hf))⟩
      unfold runX;rw [run,step_few _ _ _ _ hf];rfl
    rcases signs7 c with rfl|rfl|rfl|rfl|rfl|rfl|rfl|ho
    · exact lt 0 (by simp)
    · exact lt 1 (by simp)
    · exact lt 2 (by simp)
    · exact lt (-1) (by simp)
    · by_cases h2:2 ≤ es.length
      · obtain ⟨s,a,b,rfl⟩:=last_two h2
        obtain ⟨t,x,y,rfl,hr,hx,hy⟩:=h.last2
        have hz2:sizes s + (a.size + b.size) + (r.length + 1) ≤ N:=by rw [sizes_app] at hz;simpa [sizes] using hz
        obtain ⟨z,⟨K,hK⟩,hz⟩:=S.j a b x y (by omega) hx hy
        refine up (es':=s ++ [.j a b]) (ys:=t ++ [z]) (by rw [sizes_app];simp [sizes,Ex.size] at hz2 ⊢;omega) ?_ ⟨K,fun k hk=>?_⟩ (hr.snoc hz)
        · unfold runX;rw [run,step_dot];rfl
        · have e:=hK k hk
          simp only at e ⊢
          rw [step_dot,e];rfl
      · exact few (by simp;omega)
    · by_cases h2:2 ≤ es.length
      · obtain ⟨s,a,b,rfl⟩:=last_two h2
        obtain ⟨t,x,y,rfl,hr,hx,hy⟩:=h.last2
        have hz2:sizes s + (a.size + b.size) + (r.length + 1) ≤ N:=by rw [sizes_app] at hz;simpa [sizes] using hz
        obtain ⟨z,⟨K,hK⟩,hz⟩:=S.e a b x y (by omega) hx hy
        refine up (es':=s ++ [.e a b]) (ys:=t ++ [z]) (by rw [sizes_app];simp [sizes,Ex.size] at hz2 ⊢;omega) ?_ ⟨K,fun k hk=>?_⟩ (hr.snoc hz)
        · unfold runX;rw [run,step_plus];rfl
        · have e:=hK k hk
          simp only at e ⊢
          rw [step_plus,e];rfl
      · exact few (by simp;omega)
    · by_cases h2:1 ≤ es.length
      · obtain ⟨s,a,rfl⟩:=last_one h2
        obtain ⟨t,x,rfl,hr,hx⟩:=h.last
        have hz2:sizes s + a.size + (r.length + 1) ≤ N:=by rw [sizes_app] at hz;simpa [sizes] using hz
        obtain ⟨z,⟨K,hK⟩,hz⟩:=S.s a x (by omega) hx
        refine up (es':=s ++ [.s a]) (ys:=t ++ [z]) (by rw [sizes_app];simp [sizes,Ex.size] at hz2 ⊢;omega) ?_ ⟨K,fun k hk=>?_⟩ (hr.snoc hz)
        · unfold runX;rw [run,step_star];rfl
        · have e:=hK k hk
          simp only at e ⊢
          rw [step_star,e];rfl
      · exact few (.inr ⟨rfl,by omega⟩)
    · refine ⟨none,?_,Told.stop (fun k=>step_other _ _ _ _ ho)⟩
      unfold runX;rw [run,step_other _ _ _ _ ho];rfl
end
end Go.Proofs.Mach
/- What an expression's image is: a set of vectors; and what Accepts' machine has of it. -/
namespace Go.Proofs.Ytkonljiembcdlaa.PC
open Go.Proofs.MyWords Go.RowKit Go.Proofs.YtkonljiembcdlaaW.PrintWords Go.Proofs.YtkonljiembcdlaaW.PrintLast Go.Proofs.YtkonljiembcdlaaW.PrintMore
open Go.Proofs.Mach (Ex)
set_option linter.unusedVariables false
set_option linter.unusedSimpArgs false
inductive StarP (P:FoundW.V3 → Prop):FoundW.V3 → Prop
  | zero:StarP P (0,0,0)
  | add {x y}:P x → StarP P y → StarP P (add3 y x)
def den:Ex → FoundW.V3 → Prop
  | .l i=>fun v=>v=unit3 i
  | .j a b=>fun v=>∃ x y,den a x∧den b y∧v=add3 x y
  | .e a b=>fun v=>den a v ∨ den b v
  | .s a=>StarP (den a)
def nn3 (s:FoundW.V3):Prop:=0 ≤ s.1∧0 ≤ s.2.1∧0 ≤ s.2.2
theorem nn_add {x y:FoundW.V3} (h:nn3 x) (k:nn3 y):nn3 (add3 x y):=by
  obtain ⟨h1,h2,h3⟩:=h
  obtain ⟨k1,k2,k3⟩:=k
  unfold add3
  exact ⟨by simp only;omega,by simp only;omega,by simp only;omega⟩
theorem nn_star {P:FoundW.V3 → Prop} (hP:∀ v,P v → nn3 v):∀ v,StarP P v → nn3 v:=fun v h=>by
  induction h with
  | zero=>exact ⟨by decide,by decide,by decide⟩
  | add h1 _ ih=>exact nn_add ih (hP _ h1)
theorem nn_den:∀ (e:Ex) (v:FoundW.V3),den e v → nn3 v
  | .l i,v,h=>by
    obtain rfl:v=unit3 i:=h
    unfold unit3
    exact ⟨by simp only;split <;> omega,by simp only;split <;> omega,by simp only;split <;> omega⟩
  | .j a b,v,⟨x,y,h1,h2,e⟩=>by
    rw [e]
    exact nn_add (nn_den a x h1) (nn_den b y h2)
  | .e a b,v,.inl h=>nn_den a v h
  | .e a b,v,.inr h=>nn_den b v h
  | .s a,v,h=>nn_star (nn_den a) v h
theorem box_iff {m s:FoundW.V3}:inBox m s=true ↔ (s.1 ≤ m.1∧s.2.1 ≤ m.2.1∧s.2.2 ≤ m.2.2):=by
  unfold inBox
  exact decide_eq_true_iff
theorem box_left {m x y:FoundW.V3} (hx:nn3 x) (hy:nn3 y) (h:inBox m (add3 x y)=true):inBox m x=true∧inBox m y=true:=by
  rw [box_iff] at h ⊢
  rw [box_iff]
  obtain ⟨h1,h2,h3⟩:=hx
  obtain ⟨k1,k2,k3⟩:=hy
  unfold add3 at h
  simp only at h
  omega
def RF (m:FoundW.V3) (e:Ex) (L:List FoundW.V3):Prop:=GoodL m L∧∀ s,s ∈ L ↔ den e s∧inBox m s=true
theorem len_closed {O N:List FoundW.V3} (hO:O.Nodup) (h:(fBoth O N).length=O.length):∀ s,s ∈ N → s ∈ O:=fun s hs=>by
  by_cases hi:s ∈ O
  · exact hi
  · exfalso
    have:=nodup_len3 (s :: O) (fBoth O N) (List.nodup_cons.2 ⟨hi,hO⟩) (fun x hx=>by
      rcases List.mem_cons.1 hx with rfl|hx
      · exact mem_fBoth.2 (.inr hs)
      · exact mem_fBoth.2 (.inl hx))
    rw [h] at this
    simp at this
    omega
theorem fStar_spec (m:FoundW.V3) (A:List FoundW.V3) (P:FoundW.V3 → Prop) (hA:∀ s,s ∈ A → P s):∀ (k:Nat) (O r:List FoundW.V3),O.Nodup → (∀ s,s ∈ O → StarP P s) → fStar m A k O=some r → (∀ s,s ∈ r → StarP P s)∧(∀ s,s ∈ O → s ∈ r)∧∀ s,s ∈ fJoin m r A → s ∈ r
  | 0,O,r,_,_,h=>by simp [fStar] at h
  | k + 1,O,r,hn,hO,h=>by
    rw [fStar] at h
    have hN:∀ s,s ∈ fBoth O (fJoin m O A) → StarP P s:=fun s hs=>by
      rcases mem_fBoth.1 hs with h|h
      · exact hO s h
      · obtain ⟨⟨v,hv,u,hu,rfl⟩,_⟩:=mem_fJoin.1 h
        exact .add (hA u hu) (hO v hv)
    split at h
    · rename_i hl
      obtain rfl:=Option.some.inj h
      exact ⟨hO,fun s hs=>hs,len_closed hn hl⟩
    · obtain ⟨h1,h2,h3⟩:=fStar_spec m A P hA k _ r (dd_nodup _) hN h
      exact ⟨h1,fun s hs=>h2 s (mem_fBoth.2 (.inl hs)),h3⟩
theorem simF (m:FoundW.V3) (hm:mok m) (N:Nat):Mach.Sim (fun _ i=>some (fLetter m i)) (fun _ a b=>some (fJoin m a b)) (fun _ a b=>some (fBoth a b)) (fun k a=>fStar m a k [(0,0,0)]) N (RF m) where
  l:=fun i hi=>by
    obtain ⟨x,hx,gx⟩:=(runF_total m hm 730 (Nat.le_refl _)).l i hi
    obtain rfl:=Option.some.inj hx
    refine ⟨_,⟨0,fun _ _=>rfl⟩,gx,fun s=>?_⟩
    unfold fLetter
    rw [List.mem_filter,List.mem_singleton]
    exact Iff.rfl
  j:=fun a b x y _ hx hy=>by
    refine ⟨_,⟨0,fun _ _=>rfl⟩,⟨dd_nodup _,fJoin_good hx.1.2 hy.1.2⟩,fun s=>?_⟩
    rw [mem_fJoin]
    constructor
    · rintro ⟨⟨v,hv,u,hu,rfl⟩,h⟩
      exact ⟨⟨v,u,((hx.2 v).1 hv).1,((hy.2 u).1 hu).1,rfl⟩,h⟩
    · rintro ⟨⟨v,u,hv,hu,rfl⟩,h⟩
      have:=box_left (nn_den _ _ hv) (nn_den _ _ hu) h
      exact ⟨⟨v,(hx.2 v).2 ⟨hv,this.1⟩,u,(hy.2 u).2 ⟨hu,this.2⟩,rfl⟩,h⟩
  e:=fun a b x y _ hx hy=>by
    refine ⟨_,⟨0,fun _ _=>rfl⟩,⟨dd_nodup _,fBoth_good hx.1.2 hy.1.2⟩,fun s=>?_⟩
    rw [mem_fBoth,hx.2,hy.2]
    show _ ↔ (den a s ∨ den b s)∧_
    constructor
    · rintro (h|h)
      · exact ⟨.inl h.1,h.2⟩
      · exact ⟨.inr h.1,h.2⟩
    · rintro ⟨h|h,h2⟩
      · exact .inl ⟨h,h2⟩
      · exact .inr ⟨h,h2⟩
  s:=fun a x _ hx=>by
    obtain ⟨r,hr,gr⟩:=fStar_some m hm x hx.1 729 730 _ ⟨by simp,zero_good hm⟩ (by omega) (by omega)
    refine ⟨r,Ev.of (fun k=>fStar.mono m x k _) hr,gr,fun s=>?_⟩
    obtain ⟨h1,h2,h3⟩:=fStar_spec m x (den a) (fun s hs=>((hx.2 s).1 hs).1) 730 _ r (by simp) (fun s hs=>by
      obtain rfl:s=(0,0,0):=by simpa using hs
      exact .zero) hr
    constructor
    · exact fun hs=>⟨h1 s hs,(gr.2 s hs).2⟩
    · rintro ⟨hs,hb⟩
      have:∀ v,StarP (den a) v → inBox m v=true → v ∈ r:=fun v hv=>by
        induction hv with
        | zero=>exact fun _=>h2 _ (by simp)
        | @add p q hp hq ih =>
          intro hb
          have hb2:=box_left (nn_star (nn_den a) _ hq) (nn_den a _ hp) hb
          exact h3 _ (mem_fJoin.2 ⟨⟨q,ih hb2.1,p,(hx.2 p).2 ⟨hp,hb2.2⟩,rfl⟩,hb⟩)
      exact this s hs hb
theorem runF_den (m:FoundW.V3) (hm:mok m) (c:List UInt8):∃ o,Mach.runX c []=some o∧match o with
    | none=>Ev (fun k=>runF k m c []) none
    | some e=>∃ L,Ev (fun k=>runF k m c []) (some L)∧RF m e L:=by
  obtain ⟨o,h1,h2⟩:=Mach.sim (simF m hm c.length) c [] [] (by simp [Mach.sizes]) .nil
  refine ⟨o,h1,?_⟩
  cases o with
  | none=>exact h2
  | some e=>exact h2
end Go.Proofs.Ytkonljiembcdlaa.PC
/- The reference's tables of vectors, in plain Lean. -/
namespace Go.Proofs.Ytkonljiembcdlaa.PC
open Go.Proofs.MyWords Go.RowKit Go.Proofs.YtkonljiembcdlaaW.PrintWords Go.Proofs.YtkonljiembcdlaaW.PrintLast Go.Proofs.YtkonljiembcdlaaW.PrintMore
open Go.Proofs.Mach (Ex)
open Go.Proofs.Ytkonljiembcdlaa.Pure
set_option linter.unusedVariables false
set_option linter.unusedSimpArgs false
def vecN (i:Nat):FoundW.V3:=(((i / 81:Nat):Int),((i / 9 % 9:Nat):Int),((i % 9:Nat):Int))
def sm9 (v:FoundW.V3):Prop:=(0 ≤ v.1∧v.1 ≤ 8)∧(0 ≤ v.2.1∧v.2.1 ≤ 8)∧(0 ≤ v.2.2∧v.2.2 ≤ 8)
instance (v:FoundW.V3):Decidable (sm9 v):=by unfold sm9;infer_instance
def idxN (v:FoundW.V3):Nat:=((v.1 * 9 + v.2.1) * 9 + v.2.2).toNat
theorem sm_vec {i:Nat} (h:i < 729):sm9 (vecN i):=by
  unfold sm9 vecN
  simp only
  omega
theorem vec_idx {v:FoundW.V3} (h:sm9 v):idxN v < 729∧vecN (idxN v)=v:=by
  obtain ⟨a,b,c⟩:=v
  unfold sm9 at h
  simp only at h
  unfold vecN idxN
  simp only
  refine ⟨by omega,?_⟩
  have h1:(((a * 9 + b) * 9 + c).toNat / 81:Nat)=a.toNat:=by omega
  have h2:(((a * 9 + b) * 9 + c).toNat / 9 % 9:Nat)=b.toNat:=by omega
  have h3:(((a * 9 + b) * 9 + c).toNat % 9:Nat)=c.toNat:=by omega
  rw [h1,h2,h3,Int.toNat_of_nonneg h.1.1,Int.toNat_of_nonneg h.2.1.1,Int.toNat_of_nonneg h.2.2.1]
theorem vec_inj {i j:Nat} (hi:i < 729) (hj:j < 729) (h:vecN i=vecN j):i=j:=by
  unfold vecN at h
  have h1:=congrArg (fun v=>v.1) h
  have h2:=congrArg (fun v=>v.2.1) h
  have h3:=congrArg (fun v=>v.2.2) h
  simp only at h1 h2 h3
  omega
def l3 (v:FoundW.V3):List Int:=[v.1,v.2.1,v.2.2]
theorem vector_f (i:Nat) (h:i < 729):bellpullref05_vector.f (i:Int)=some (l3 (vecN i)):=by
  unfold bellpullref05_vector.f l3 vecN
  have e1:Int.tdiv (i:Int) 9=((i / 9:Nat):Int):=by rw [Int.tdiv_eq_ediv_of_nonneg (by omega)];omega
  have w1:wrap64 (((i / 9:Nat):Int))=((i / 9:Nat):Int):=wrap_id (by omega) (by omega)
  have e2:Int.tdiv ((i / 9:Nat):Int) 9=((i / 81:Nat):Int):=by rw [Int.tdiv_eq_ediv_of_nonneg (by omega)];omega
  have w2:wrap64 (((i / 81:Nat):Int))=((i / 81:Nat):Int):=wrap_id (by omega) (by omega)
  have e3:Int.tmod ((i / 9:Nat):Int) 9=((i / 9 % 9:Nat):Int):=by rw [Int.tmod_eq_emod_of_nonneg (by omega)];omega
  have e4:Int.tmod (i:Int) 9=((i % 9:Nat):Int):=by rw [Int.tmod_eq_emod_of_nonneg (by omega)];omega
  rw [e1,w1,e2,w2,e3,e4]
theorem plus_f {x y:FoundW.V3} (hx:sm9 x) (hy:sm9 y) (k:Nat):bellpullref05_Plus.f (k + 4) (l3 x) (l3 y)=some (l3 (add3 x y)):=by
  obtain ⟨a,b,c⟩:=x
  obtain ⟨a',b',c'⟩:=y
  unfold sm9 at hx hy
  simp only at hx hy
  have w1:wrap64 (a + a')=a + a':=wrap_id (by omega) (by omega)
  have w2:wrap64 (b + b')=b + b':=wrap_id (by omega) (by omega)
  have w3:wrap64 (c + c')=c + c':=wrap_id (by omega) (by omega)
  have i1:wrap64 1=1:=wrap_id (by omega) (by omega)
  have i2:wrap64 2=2:=wrap_id (by omega) (by omega)
  have i3:wrap64 3=3:=wrap_id (by omega) (by omega)
  simp [bellpullref05_Plus.f,bellpullref05_Plus.l0,l3,add3,rd,w1,w2,w3,i1,i2,i3]
theorem small_f {x:FoundW.V3} (hx:nn3 x) (k:Nat):bellpullref05_small.f (k + 4) (l3 x)=some (decide (sm9 x)):=by
  obtain ⟨a,b,c⟩:=x
  unfold nn3 at hx
  simp only at hx
  have i1:wrap64 1=1:=wrap_id (by omega) (by omega)
  have i2:wrap64 2=2:=wrap_id (by omega) (by omega)
  have i3:wrap64 3=3:=wrap_id (by omega) (by omega)
  have inf:∀ z:Int,0 ≤ z → bellpullref01_In.f z 0 8=some (decide (z ≤ 8)):=fun z hz=>by
    unfold bellpullref01_In.f
    rw [if_pos hz]
  unfold bellpullref05_small.f bellpullref05_wide.f
  have r0:rd (l3 (a,b,c)) 0=a:=rfl
  have r1:rd (l3 (a,b,c)) 1=b:=rfl
  have r2:rd (l3 (a,b,c)) 2=c:=rfl
  have len:((l3 (a,b,c)).length:Int)=3:=rfl
  by_cases h1:a ≤ 8
  · by_cases h2:b ≤ 8
    · by_cases h3:c ≤ 8
      · have:decide (sm9 (a,b,c))=true:=decide_eq_true ⟨⟨hx.1,h1⟩,⟨hx.2.1,h2⟩,⟨hx.2.2,h3⟩⟩
        rw [this]
        simp [bellpullref05_wide.l0,len,r0,r1,r2,inf a hx.1,inf b hx.2.1,inf c hx.2.2,h1,h2,h3,i1,i2,i3]
      · have:decide (sm9 (a,b,c))=false:=decide_eq_false (fun h=>h3 h.2.2.2)
        rw [this]
        simp [bellpullref05_wide.l0,len,r0,r1,r2,inf a hx.1,inf b hx.2.1,inf c hx.2.2,h1,h2,h3,i1,i2,i3]
    · have:decide (sm9 (a,b,c))=false:=decide_eq_false (fun h=>h2 h.2.1.2)
      rw [this]
      simp [bellpullref05_wide.l0,len,r0,r1,r2,inf a hx.1,inf b hx.2.1,h1,h2,i1,i2,i3]
  · have:decide (sm9 (a,b,c))=false:=decide_eq_false (fun h=>h1 h.1.2)
    rw [this]
    simp [bellpullref05_wide.l0,len,r0,r1,r2,inf a hx.1,h1,i1,i2,i3]
theorem index_f {v:FoundW.V3} (h:sm9 v):bellpullref05_index.f (l3 v)=some ((idxN v:Nat):Int):=by
  obtain ⟨a,b,c⟩:=v
  unfold sm9 at h
  simp only at h
  have r0:rd (l3 (a,b,c)) 0=a:=rfl
  have r1:rd (l3 (a,b,c)) 1=b:=rfl
  have r2:rd (l3 (a,b,c)) 2=c:=rfl
  have len:((l3 (a,b,c)).length:Int)=3:=rfl
  unfold bellpullref05_index.f idxN
  rw [len,if_pos (by decide),if_pos (by decide),if_pos (by decide),r0,r1,r2]
  have w1:wrap64 (a * 9)=a * 9:=wrap_id (by omega) (by omega)
  have w2:wrap64 (a * 9 + b)=a * 9 + b:=wrap_id (by omega) (by omega)
  have w3:wrap64 ((a * 9 + b) * 9)=(a * 9 + b) * 9:=wrap_id (by omega) (by omega)
  have w4:wrap64 ((a * 9 + b) * 9 + c)=(a * 9 + b) * 9 + c:=wrap_id (by omega) (by omega)
  rw [w1,w2,w3,w4]
  simp only
  congr 1
  omega
def On (T:List Bool) (p:Nat):Prop:=T.getD p false=true
def RT (e:Ex) (T:List Bool):Prop:=T.length=729∧∀ p,p < 729 → (On T p ↔ den e (vecN p))
theorem On_set {T:List Bool} (hT:T.length=729) {q:Nat} (hq:q < 729) (b:Bool) (p:Nat):On (T.set q b) p ↔ (if p=q then b=true else On T p):=by
  unfold On
  by_cases h:p=q
  · subst h
    simp [List.getD_eq_getElem?_getD,hT,hq]
  · rw [if_neg h]
    simp [List.getD_eq_getElem?_getD,List.getElem?_set,Ne.symm h]
theorem On_zeros (p:Nat):¬ On (List.replicate 729 false) p:=by
  unfold On
  rw [List.getD_eq_getElem?_getD,List.getElem?_replicate]
  split <;> exact fun h=>by cases h
theorem rdOf_On {T:List Bool} {p:Nat}:rdOf false T (p:Int)=true ↔ On T p:=by
  unfold rdOf On
  rw [Int.toNat_natCast]
end Go.Proofs.Ytkonljiembcdlaa.PC
/- The reference's sums of tables, in plain Lean. -/
namespace Go.Proofs.Ytkonljiembcdlaa.PC
open Go.Proofs.MyWords Go.RowKit Go.Proofs.YtkonljiembcdlaaW.PrintWords Go.Proofs.YtkonljiembcdlaaW.PrintLast Go.Proofs.YtkonljiembcdlaaW.PrintMore
open Go.Proofs.Mach (Ex)
open Go.Proofs.Ytkonljiembcdlaa.Pure
set_option linter.unusedVariables false
set_option linter.unusedSimpArgs false
def SumAt (T U:List Bool) (i k p:Nat):Prop:=i < 729∧k < 729∧On T i∧On U k∧add3 (vecN i) (vecN k)=vecN p
def JInv (T U O:List Bool) (i k:Nat):Prop:=O.length=729∧∀ p,p < 729 → (On O p ↔ ∃ i' k',(i' < i ∨ i'=i∧k' < k)∧SumAt T U i' k' p)
theorem JInv.row {T U O:List Bool} {i k:Nat} (h:JInv T U O i k) (hn:∀ k' p,k ≤ k' → ¬ SumAt T U i k' p):JInv T U O (i + 1) 0:=by
  refine ⟨h.1,fun p hp=>(h.2 p hp).trans ⟨?_,?_⟩⟩
  · rintro ⟨i',k',h1,h2⟩
    exact ⟨i',k',.inl (by omega),h2⟩
  · rintro ⟨i',k',h1,h2⟩
    refine ⟨i',k',?_,h2⟩
    have h3:i' < i ∨ i'=i:=by omega
    rcases h3 with h3|h3
    · exact .inl h3
    · subst h3
      exact .inr ⟨rfl,Nat.lt_of_not_le (fun h4=>hn k' p h4 h2)⟩
theorem JInv.skip {T U O:List Bool} {i k:Nat} (h:JInv T U O i k) (hn:∀ p,p < 729 → ¬ SumAt T U i k p):JInv T U O i (k + 1):=by
  refine ⟨h.1,fun p hp=>(h.2 p hp).trans ⟨?_,?_⟩⟩
  · rintro ⟨i',k',h1,h2⟩
    exact ⟨i',k',by omega,h2⟩
  · rintro ⟨i',k',h1,h2⟩
    have h3:(i' < i ∨ i'=i∧k' < k) ∨ i'=i∧k'=k:=by omega
    rcases h3 with h3|⟨rfl,rfl⟩
    · exact ⟨i',k',h3,h2⟩
    · exact absurd h2 (hn p hp)
theorem JInv.put {T U O:List Bool} {i k q:Nat} (h:JInv T U O i k) (hq:q < 729) (hs:SumAt T U i k q):JInv T U (O.set q true) i (k + 1):=by
  refine ⟨by rw [List.length_set];exact h.1,fun p hp=>?_⟩
  rw [On_set h.1 hq]
  by_cases e:p=q
  · subst e
    rw [if_pos rfl]
    exact ⟨fun _=>⟨i,k,.inr ⟨rfl,by omega⟩,hs⟩,fun _=>rfl⟩
  · rw [if_neg e,h.2 p hp]
    constructor
    · rintro ⟨i',k',h1,h2⟩
      exact ⟨i',k',by omega,h2⟩
    · rintro ⟨i',k',h1,h2⟩
      have h3:(i' < i ∨ i'=i∧k' < k) ∨ i'=i∧k'=k:=by omega
      rcases h3 with h3|⟨rfl,rfl⟩
      · exact ⟨i',k',h3,h2⟩
      · exact absurd (vec_inj hp hq (h2.2.2.2.2.symm.trans hs.2.2.2.2)) e
theorem nn_of_sm {v:FoundW.V3} (h:sm9 v):nn3 v:=⟨h.1.1,h.2.1.1,h.2.2.1⟩
theorem joined_go (T U:List Bool) (hT:T.length=729) (hU:U.length=729):∀ (n i k:Nat) (O:List Bool),(729 - i) * 730 + (729 - k)=n → i < 729 → k ≤ 729 → JInv T U O i k →
    ∃ R,Ev (fun q=>bellpullref05_joined.l1 q T U O (i:Int) (k:Int)) R∧JInv T U R 729 0:=by
  intro n
  induction n using Nat.strongRecOn with
  | ind n ih =>
    intro i k O hn hi hk hO
    have wi:wrap64 ((i:Int) + 1)=((i + 1:Nat):Int):=by rw [wrap_id (by omega) (by omega)];omega
    have wk:wrap64 ((k:Int) + 1)=((k + 1:Nat):Int):=by rw [wrap_id (by omega) (by omega)];omega
    have hTi:(T.length:Int)=729:=by rw [hT];rfl
    have hUi:(U.length:Int)=729:=by rw [hU];rfl
    -- the next row
    have next:JInv T U O (i + 1) 0 → ∃ R,Ev (fun q=>bellpullref05_joined.l0 q T U O ((i + 1:Nat):Int)) R∧JInv T U R 729 0:=fun h=>by
      by_cases h2:i + 1 < 729
      · obtain ⟨R,⟨K,hK⟩,hR⟩:=ih ((729 - (i + 1)) * 730 + (729 - 0)) (by omega) (i + 1) 0 O rfl h2 (by omega) h
        refine ⟨R,⟨K + 1,fun q hq=>?_⟩,hR⟩
        obtain ⟨q,rfl⟩:∃ q',q=q' + 1:=⟨q - 1,by omega⟩
        have:=hK q (by omega)
        simp only at this ⊢
        rw [bellpullref05_joined.l0,hTi,if_pos (by omega)]
        exact this
      · have e:i + 1=729:=by omega
        refine ⟨O,⟨1,fun q hq=>?_⟩,by rw [e] at h;exact h⟩
        obtain ⟨q,rfl⟩:∃ q',q=q' + 1:=⟨q - 1,by omega⟩
        simp only
        rw [bellpullref05_joined.l0,hTi,if_neg (by omega)]
    -- no more of this row
    have done:(∀ q,bellpullref05_joined.l1 (q + 2) T U O (i:Int) (k:Int)=bellpullref05_joined.l0 q T U O ((i + 1:Nat):Int)) → (∀ k' p,k ≤ k' → ¬ SumAt T U i k' p) → ∃ R,Ev (fun q=>bellpullref05_joined.l1 q T U O (i:Int) (k:Int)) R∧JInv T U R 729 0:=fun he hs=>by
      obtain ⟨R,⟨K,hK⟩,hR⟩:=next (hO.row hs)
      refine ⟨R,⟨K + 2,fun q hq=>?_⟩,hR⟩
      obtain ⟨q,rfl⟩:∃ q',q=q' + 2:=⟨q - 2,by omega⟩
      have:=hK q (by omega)
      simp only at this ⊢
      rw [he q,this]
    by_cases hTo:On T i
    · by_cases hkk:k < 729
      · have hd:decide ((k:Int) < (U.length:Int))=true:=decide_eq_true (by rw [hUi];omega)
        have go:∀ O',JInv T U O' i (k + 1) → ∃ R,Ev (fun q=>bellpullref05_joined.l1 q T U O' (i:Int) ((k + 1:Nat):Int)) R∧JInv T U R 729 0:=fun O' h=>ih ((729 - i) * 730 + (729 - (k + 1))) (by omega) i (k + 1) O' rfl hi (by omega) h
        by_cases hUo:On U k
        · have nn:nn3 (add3 (vecN i) (vecN k)):=nn_add (nn_of_sm (sm_vec hi)) (nn_of_sm (sm_vec hkk))
          have start:∀ q,bellpullref05_joined.l1 (q + 6) T U O (i:Int) (k:Int)=if decide (sm9 (add3 (vecN i) (vecN k)))=true then (bellpullref05_index.f (l3 (add3 (vecN i) (vecN k)))).bind fun t580=>(if 0 ≤ t580 then (if t580 < (O.length:Int) then (bellpullref05_joined.l1 (q + 4) T U (O.set (t580:Int).toNat true) (i:Int) ((k + 1:Nat):Int)) else (none)) else (none)) else bellpullref05_joined.l1 (q + 4) T U O (i:Int) ((k + 1:Nat):Int):=fun q=>by
            rw [show q + 6=(q + 5) + 1 from rfl,bellpullref05_joined.l1,if_pos (by omega),hTi,if_pos (by omega),if_pos (rdOf_On.2 hTo),hd,show q + 5=(q + 4) + 1 from rfl,bellpullref05_joined.j2,if_pos rfl,if_pos (by omega),hUi,if_pos (by omega),if_pos (rdOf_On.2 hUo),vector_f i hi,Option.bind_some,vector_f k hkk,Option.bind_some,plus_f (sm_vec hi) (sm_vec hkk),Option.bind_some,small_f nn,Option.bind_some,wk]
          by_cases hsm:sm9 (add3 (vecN i) (vecN k))
          · obtain ⟨R,⟨K,hK⟩,hR⟩:=go _ (hO.put (vec_idx hsm).1 ⟨hi,hkk,hTo,hUo,(vec_idx hsm).2.symm⟩)
            refine ⟨R,⟨K + 6,fun q hq=>?_⟩,hR⟩
            obtain ⟨q,rfl⟩:∃ q',q=q' + 6:=⟨q - 6,by omega⟩
            have:=hK (q + 4) (by omega)
            simp only at this ⊢
            rw [start q,if_pos (decide_eq_true hsm),index_f hsm,Option.bind_some,if_pos (by omega),if_pos (by have:=(vec_idx hsm).1;rw [hO.1];omega),Int.toNat_natCast,this]
          · obtain ⟨R,⟨K,hK⟩,hR⟩:=go _ (hO.skip (fun p hp hs=>hsm (by rw [hs.2.2.2.2];exact sm_vec hp)))
            refine ⟨R,⟨K + 6,fun q hq=>?_⟩,hR⟩
            obtain ⟨q,rfl⟩:∃ q',q=q' + 6:=⟨q - 6,by omega⟩
            have:=hK (q + 4) (by omega)
            simp only at this ⊢
            rw [start q,if_neg (by rw [decide_eq_true_iff];exact hsm),this]
        · obtain ⟨R,⟨K,hK⟩,hR⟩:=go _ (hO.skip (fun p hp hs=>hUo hs.2.2.2.1))
          refine ⟨R,⟨K + 2,fun q hq=>?_⟩,hR⟩
          obtain ⟨q,rfl⟩:∃ q',q=q' + 2:=⟨q - 2,by omega⟩
          have:=hK q (by omega)
          simp only at this ⊢
          rw [bellpullref05_joined.l1,if_pos (by omega),hTi,if_pos (by omega),if_pos (rdOf_On.2 hTo),hd,bellpullref05_joined.j2,if_pos rfl,if_pos (by omega),hUi,if_pos (by omega),if_neg (fun h=>hUo (rdOf_On.1 h)),wk,this]
      · have hd:decide ((k:Int) < (U.length:Int))=false:=decide_eq_false (by rw [hUi];omega)
        refine done (fun q=>?_) (fun k' p h hs=>by have:=hs.2.1;omega)
        rw [bellpullref05_joined.l1,if_pos (by omega),hTi,if_pos (by omega),if_pos (rdOf_On.2 hTo),hd,bellpullref05_joined.j2,if_neg (by simp),wi]
    · refine done (fun q=>?_) (fun k' p h hs=>hTo hs.2.2.1)
      rw [bellpullref05_joined.l1,if_pos (by omega),hTi,if_pos (by omega),if_neg (fun h=>hTo (rdOf_On.1 h)),bellpullref05_joined.j2,if_neg (by simp),wi]
theorem joined_ev (T U:List Bool) (hT:T.length=729) (hU:U.length=729):∃ R,Ev (fun q=>bellpullref05_joined.f q T U) R∧R.length=729∧∀ p,p < 729 → (On R p ↔ ∃ i k,SumAt T U i k p):=by
  obtain ⟨R,⟨K,hK⟩,hR⟩:=joined_go T U hT hU _ 0 0 (List.replicate 729 false) rfl (by omega) (by omega) ⟨List.length_replicate,fun p hp=>⟨fun h=>absurd h (On_zeros p),fun ⟨i',k',h1,_⟩=>by omega⟩⟩
  refine ⟨R,⟨K + 1,fun q hq=>?_⟩,hR.1,fun p hp=>(hR.2 p hp).trans ⟨fun ⟨i',k',_,h⟩=>⟨i',k',h⟩,fun ⟨i',k',h⟩=>⟨i',k',.inl h.1,h⟩⟩⟩
  obtain ⟨q,rfl⟩:∃ q',q=q' + 1:=⟨q - 1,by omega⟩
  have:=hK q (by omega)
  simp only at this ⊢
  have hTi:(T.length:Int)=729:=by rw [hT];rfl
  unfold bellpullref05_joined.f
  rw [hTi,if_pos (by decide),if_pos (by decide),bellpullref05_joined.l0,hTi,if_pos (by decide)]
  exact this
theorem RT.join {a b:Ex} {T U:List Bool} (hT:RT a T) (hU:RT b U):∃ R,Ev (fun q=>bellpullref05_joined.f q T U) R∧RT (.j a b) R:=by
  obtain ⟨R,h1,h2,h3⟩:=joined_ev T U hT.1 hU.1
  refine ⟨R,h1,h2,fun p hp=>(h3 p hp).trans ⟨?_,?_⟩⟩
  · rintro ⟨i,k,hi,hk,ht,hu,e⟩
    exact ⟨vecN i,vecN k,(hT.2 i hi).1 ht,(hU.2 k hk).1 hu,e.symm⟩
  · rintro ⟨x,y,hx,hy,e⟩
    have sx:sm9 x∧sm9 y:=by
      have s:=sm_vec hp
      have n1:=nn_den a x hx
      have n2:=nn_den b y hy
      rw [e] at s
      obtain ⟨s1,s2,s3⟩:=s
      unfold add3 at s1 s2 s3
      simp only at s1 s2 s3
      obtain ⟨a1,a2,a3⟩:=n1
      obtain ⟨b1,b2,b3⟩:=n2
      exact ⟨⟨by omega,by omega,by omega⟩,⟨by omega,by omega,by omega⟩⟩
    obtain ⟨i1,i2⟩:=vec_idx sx.1
    obtain ⟨k1,k2⟩:=vec_idx sx.2
    refine ⟨idxN x,idxN y,i1,k1,(hT.2 _ i1).2 (by rw [i2];exact hx),(hU.2 _ k1).2 (by rw [k2];exact hy),by rw [i2,k2,e]⟩
end Go.Proofs.Ytkonljiembcdlaa.PC
/- The reference's tables of an expression's image, in plain Lean. -/
namespace Go.Proofs.Ytkonljiembcdlaa.PC
open Go.Proofs.MyWords Go.RowKit Go.Proofs.YtkonljiembcdlaaW.PrintWords Go.Proofs.YtkonljiembcdlaaW.PrintLast Go.Proofs.YtkonljiembcdlaaW.PrintMore
open Go.Proofs.Mach (Ex)
open Go.Proofs.Ytkonljiembcdlaa.Pure
set_option linter.unusedVariables false
set_option linter.unusedSimpArgs false
theorem or_go (X Y:List Bool) (hX:X.length=729) (hY:Y.length=729):∀ (n i:Nat) (O:List Bool),729 - i=n → i ≤ 729 → O.length=729 → (∀ p,p < 729 → (On O p ↔ p < i∧(On X p ∨ On Y p))) →
    ∃ R,Ev (fun q=>bellpullref05_Images.l0 q O X Y (i:Int)) R∧R.length=729∧∀ p,p < 729 → (On R p ↔ On X p ∨ On Y p)
  | 0,i,O,hn,hi,hO,h=>by
    refine ⟨O,⟨1,fun q hq=>?_⟩,hO,fun p hp=>(h p hp).trans ⟨fun h=>h.2,fun h=>⟨by omega,h⟩⟩⟩
    obtain ⟨q,rfl⟩:∃ q',q=q' + 1:=⟨q - 1,by omega⟩
    simp only
    rw [bellpullref05_Images.l0,if_neg (by rw [hO];omega)]
  | n + 1,i,O,hn,hi,hO,h=>by
    have wi:wrap64 ((i:Int) + 1)=((i + 1:Nat):Int):=by rw [wrap_id (by omega) (by omega)];omega
    have hOi:(O.length:Int)=729:=by rw [hO];rfl
    have hXi:(X.length:Int)=729:=by rw [hX];rfl
    have hYi:(Y.length:Int)=729:=by rw [hY];rfl
    have step:∃ b:Bool,(b=true ↔ On X i ∨ On Y i)∧∀ q,bellpullref05_Images.l0 (q + 1) O X Y (i:Int)=bellpullref05_Images.l0 q (O.set i b) X Y ((i + 1:Nat):Int):=by
      by_cases hx:On X i
      · refine ⟨true,⟨fun _=>.inl hx,fun _=>rfl⟩,fun q=>?_⟩
        rw [bellpullref05_Images.l0,hOi,if_pos (by omega),if_pos (by omega),hXi,if_pos (by omega),if_pos (rdOf_On.2 hx),wi,Int.toNat_natCast]
      · refine ⟨rdOf false Y (i:Int),⟨fun h=>.inr (rdOf_On.1 h),fun h=>rdOf_On.2 (h.resolve_left hx)⟩,fun q=>?_⟩
        rw [bellpullref05_Images.l0,hOi,if_pos (by omega),if_pos (by omega),hXi,if_pos (by omega),if_neg (fun h=>hx (rdOf_On.1 h)),hYi,if_pos (by omega),wi,Int.toNat_natCast]
    obtain ⟨b,hb,hs⟩:=step
    obtain ⟨R,⟨K,hK⟩,hR⟩:=or_go X Y hX hY n (i + 1) (O.set i b) (by omega) (by omega) (by rw [List.length_set];exact hO) (fun p hp=>by
      rw [On_set hO (by omega)]
      by_cases e:p=i
      · subst e
        rw [if_pos rfl,hb]
        exact ⟨fun h=>⟨by omega,h⟩,fun h=>h.2⟩
      · rw [if_neg e,h p hp]
        exact ⟨fun h=>⟨by omega,h.2⟩,fun h=>⟨by omega,h.2⟩⟩)
    refine ⟨R,⟨K + 1,fun q hq=>?_⟩,hR⟩
    obtain ⟨q,rfl⟩:∃ q',q=q' + 1:=⟨q - 1,by omega⟩
    have:=hK q (by omega)
    simp only at this ⊢
    rw [hs q,this]
theorem l2_step (x nx O:List Bool) (f:Bool) (i:Nat) (hi:i < 729) (hO:O.length=729) (hN:nx.length=729):∃ (b f1:Bool),(b=true ↔ On O i ∨ On nx i)∧(f1=true ↔ f=true ∨ (On nx i∧¬ On O i))∧∀ q,bellpullref05_Images.l2 (q + 1) O x f nx (i:Int)=bellpullref05_Images.l2 q (O.set i b) x f1 nx ((i + 1:Nat):Int):=by
  have wi:wrap64 ((i:Int) + 1)=((i + 1:Nat):Int):=by rw [wrap_id (by omega) (by omega)];omega
  have hOi:(O.length:Int)=729:=by rw [hO];rfl
  have hNi:(nx.length:Int)=729:=by rw [hN];rfl
  by_cases ho:On O i
  · have hr:=rdOf_On.2 ho
    cases f with
    | true =>
      refine ⟨true,true,⟨fun _=>.inl ho,fun _=>rfl⟩,⟨fun _=>.inl rfl,fun _=>rfl⟩,fun q=>?_⟩
      rw [bellpullref05_Images.l2,hOi,if_pos (by omega),if_pos rfl,if_pos (by omega),if_pos hr,wi,Int.toNat_natCast]
    | false =>
      refine ⟨true,false,⟨fun _=>.inl ho,fun _=>rfl⟩,⟨fun h=>(by cases h),fun h=>h.elim id (fun h=>absurd ho h.2)⟩,fun q=>?_⟩
      by_cases hx:On nx i
      · rw [bellpullref05_Images.l2,hOi,if_pos (by omega),if_neg (by simp),if_pos (by omega),hNi,if_pos (by omega),if_pos (rdOf_On.2 hx),if_pos hr,wi,Int.toNat_natCast,hr]
        rfl
      · rw [bellpullref05_Images.l2,hOi,if_pos (by omega),if_neg (by simp),if_pos (by omega),hNi,if_pos (by omega),if_neg (fun h=>hx (rdOf_On.1 h)),if_pos hr,wi,Int.toNat_natCast]
  · have hr:¬ rdOf false O (i:Int)=true:=fun h=>ho (rdOf_On.1 h)
    have hr2:rdOf false O (i:Int)=false:=by simpa using hr
    have hb:rdOf false nx (i:Int)=true ↔ On O i ∨ On nx i:=⟨fun h=>.inr (rdOf_On.1 h),fun h=>rdOf_On.2 (h.resolve_left ho)⟩
    cases f with
    | true =>
      refine ⟨rdOf false nx (i:Int),true,hb,⟨fun _=>.inl rfl,fun _=>rfl⟩,fun q=>?_⟩
      rw [bellpullref05_Images.l2,hOi,if_pos (by omega),if_pos rfl,if_pos (by omega),if_neg hr,hNi,if_pos (by omega),wi,Int.toNat_natCast]
    | false =>
      by_cases hx:On nx i
      · refine ⟨rdOf false nx (i:Int),true,hb,⟨fun _=>.inr ⟨hx,ho⟩,fun _=>rfl⟩,fun q=>?_⟩
        rw [bellpullref05_Images.l2,hOi,if_pos (by omega),if_neg (by simp),if_pos (by omega),hNi,if_pos (by omega),if_pos (rdOf_On.2 hx),if_neg hr,wi,Int.toNat_natCast,hr2]
        rfl
      · refine ⟨rdOf false nx (i:Int),false,hb,⟨fun h=>(by cases h),fun h=>h.elim id (fun h=>absurd h.1 hx)⟩,fun q=>?_⟩
        rw [bellpullref05_Images.l2,hOi,if_pos (by omega),if_neg (by simp),if_pos (by omega),hNi,if_pos (by omega),if_neg (fun h=>hx (rdOf_On.1 h)),if_neg hr,wi,Int.toNat_natCast]
theorem l2_go (x nx:List Bool) (hN:nx.length=729):∀ (n i:Nat) (O:List Bool) (f:Bool),729 - i=n → i ≤ 729 → O.length=729 →
    ∃ (O':List Bool) (f':Bool),(∀ q,bellpullref05_Images.l2 (q + (n + 1)) O x f nx (i:Int)=bellpullref05_Images.l1 q O' x f')∧O'.length=729∧(∀ p,p < 729 → (On O' p ↔ On O p ∨ (i ≤ p∧On nx p)))∧(f'=true ↔ f=true ∨ ∃ p,i ≤ p∧p < 729∧On nx p∧¬ On O p)
  | 0,i,O,f,hn,hi,hO=>by
    refine ⟨O,f,fun q=>?_,hO,fun p hp=>⟨.inl,fun h=>h.resolve_right (fun h=>by omega)⟩,⟨.inl,fun h=>h.resolve_right (fun ⟨p,h1,h2,_⟩=>by omega)⟩⟩
    rw [bellpullref05_Images.l2,if_neg (by rw [hO];omega)]
  | n + 1,i,O,f,hn,hi,hO=>by
    obtain ⟨b,f1,hb,hf,hs⟩:=l2_step x nx O f i (by omega) hO hN
    obtain ⟨O',f',h1,h2,h3,h4⟩:=l2_go x nx hN n (i + 1) (O.set i b) f1 (by omega) (by omega) (by rw [List.length_set];exact hO)
    refine ⟨O',f',fun q=>?_,h2,fun p hp=>?_,?_⟩
    · rw [show q + (n + 1 + 1)=(q + (n + 1)) + 1 from rfl,hs,h1]
    · rw [h3 p hp,On_set hO (by omega)]
      by_cases e:p=i
      · subst e
        rw [if_pos rfl,hb]
        constructor
        · rintro ((h|h)|h)
          · exact .inl h
          · exact .inr ⟨Nat.le_refl _,h⟩
          · omega
        · rintro (h|h)
          · exact .inl (.inl h)
          · exact .inl (.inr h.2)
      · rw [if_neg e]
        constructor
        · rintro (h|h)
          · exact .inl h
          · exact .inr ⟨by omega,h.2⟩
        · rintro (h|h)
          · exact .inl h
          · exact .inr ⟨by omega,h.2⟩
    · rw [h4,hf]
      have set_ne:∀ p,i + 1 ≤ p → (On (O.set i b) p ↔ On O p):=fun p hp=>by
        rw [On_set hO (by omega),if_neg (by omega)]
      constructor
      · rintro ((h|h)|⟨p,q1,q2,q3,q4⟩)
        · exact .inl h
        · exact .inr ⟨i,Nat.le_refl _,by omega,h.1,h.2⟩
        · exact .inr ⟨p,by omega,q2,q3,fun h=>q4 ((set_ne p q1).2 h)⟩
      · rintro (h|⟨p,q1,q2,q3,q4⟩)
        · exact .inl (.inl h)
        · by_cases e:p=i
          · subst e
            exact .inl (.inr ⟨q3,q4⟩)
          · exact .inr ⟨p,by omega,q2,q3,fun h=>q4 ((set_ne p (by omega)).1 h)⟩
def off (O:List Bool):Nat:=((List.range 729).filter fun p=>!O.getD p false).length
theorem filter_len_le {α:Type} (p q:α → Bool):∀ l:List α,(∀ x,x ∈ l → q x=true → p x=true) → (l.filter q).length ≤ (l.filter p).length
  | [],_=>Nat.le_refl _
  | x :: l,h=>by
    have ih:=filter_len_le p q l (fun y hy=>h y (by simp [hy]))
    have hx:=h x (by simp)
    rw [List.filter_cons,List.filter_cons]
    cases hq:q x
    · cases hp:p x <;> simp <;> omega
    · rw [hx hq];simpa using ih
theorem filter_len_lt {α:Type} (p q:α → Bool):∀ l:List α,(∀ x,x ∈ l → q x=true → p x=true) → (∃ x,x ∈ l∧p x=true∧q x=false) → (l.filter q).length < (l.filter p).length
  | [],_,⟨x,h,_⟩=>by cases h
  | x :: l,h,⟨y,hy,h1,h2⟩=>by
    have hle:=filter_len_le p q l (fun y hy=>h y (by simp [hy]))
    have hx:=h x (by simp)
    rw [List.filter_cons,List.filter_cons]
    by_cases e:y ∈ l
    · have ih:=filter_len_lt p q l (fun y hy=>h y (by simp [hy])) ⟨y,e,h1,h2⟩
      cases hq:q x
      · cases hp:p x <;> simp <;> omega
      · rw [hx hq];simpa using ih
    · obtain rfl:y=x:=by
        rcases List.mem_cons.1 hy with h|h
        · exact h
        · exact absurd h e
      rw [h1,h2]
      simp
      omega
theorem off_lt {O O':List Bool} (h:∀ p,p < 729 → On O p → On O' p) (hx:∃ p,p < 729∧On O' p∧¬ On O p):off O' < off O:=by
  refine filter_len_lt _ _ _ (fun p hp hq=>?_) ?_
  · have hp':=List.mem_range.1 hp
    simp only [Bool.not_eq_true'] at hq ⊢
    have:=h p hp'
    unfold On at this
    cases hO:O.getD p false with
    | false=>rfl
    | true=>rw [this hO] at hq;cases hq
  · obtain ⟨p,hp,h1,h2⟩:=hx
    refine ⟨p,List.mem_range.2 hp,?_,?_⟩
    · unfold On at h2
      simpa using h2
    · unfold On at h1
      rw [h1];rfl
theorem star_go (P:FoundW.V3 → Prop) (x:List Bool) (hx:x.length=729) (hP:∀ p,p < 729 → On x p → P (vecN p)):∀ (n:Nat) (O:List Bool),off O=n → O.length=729 → (∀ p,p < 729 → On O p → StarP P (vecN p)) → On O 0 →
    ∃ R,Ev (fun q=>bellpullref05_Images.l1 q O x true) R∧R.length=729∧(∀ p,p < 729 → On R p → StarP P (vecN p))∧On R 0∧∀ p,p < 729 → (∃ i k,SumAt R x i k p) → On R p:=by
  intro n
  induction n using Nat.strongRecOn with
  | ind n ih =>
    intro O hn hO hS h0
    obtain ⟨nx,⟨K,hK⟩,hN,hNx⟩:=joined_ev O x hO hx
    obtain ⟨O',f',h1,h2,h3,h4⟩:=l2_go x nx hN 729 0 O false rfl (by omega) hO
    have start:∀ q,K ≤ q → bellpullref05_Images.l1 (q + 730 + 1) O x true=bellpullref05_Images.l1 q O' x f':=fun q hq=>by
      have e1:=hK (q + 730) (by omega)
      simp only at e1
      rw [bellpullref05_Images.l1,if_pos rfl,e1,Option.bind_some,← h1 q]
      rfl
    have hS':∀ p,p < 729 → On O' p → StarP P (vecN p):=fun p hp h=>by
      rcases (h3 p hp).1 h with h|h
      · exact hS p hp h
      · obtain ⟨i,k,hi,hk,ho,hxk,e⟩:=(hNx p hp).1 h.2
        rw [← e]
        exact .add (hP k hk hxk) (hS i hi ho)
    have h0':On O' 0:=(h3 0 (by omega)).2 (.inl h0)
    cases f' with
    | true =>
      have hm:∃ p,p < 729∧On O' p∧¬ On O p:=by
        rcases h4.1 rfl with h|⟨p,_,hp,h5,h6⟩
        · cases h
        · exact ⟨p,hp,(h3 p hp).2 (.inr ⟨Nat.zero_le _,h5⟩),h6⟩
      obtain ⟨R,⟨K2,hK2⟩,hR⟩:=ih (off O') (by rw [← hn];exact off_lt (fun p hp h=>(h3 p hp).2 (.inl h)) hm) O' rfl h2 hS' h0'
      refine ⟨R,⟨K + K2 + 731,fun q hq=>?_⟩,hR⟩
      obtain ⟨q,rfl⟩:∃ q',q=q' + 730 + 1:=⟨q - 731,by omega⟩
      have:=hK2 q (by omega)
      simp only at this ⊢
      rw [start q (by omega),this]
    | false =>
      have hcl:∀ p,p < 729 → On nx p → On O p:=fun p hp h=>Classical.byContradiction (fun hno=>by
        have:=h4.2 (.inr ⟨p,Nat.zero_le _,hp,h,hno⟩)
        cases this)
      have same:∀ p,p < 729 → (On O' p ↔ On O p):=fun p hp=>(h3 p hp).trans ⟨fun h=>h.elim id (fun h=>hcl p hp h.2),.inl⟩
      refine ⟨O',⟨K + 732,fun q hq=>?_⟩,h2,hS',h0',fun p hp ⟨i,k,hi,hk,ho,hxk,e⟩=>(same p hp).2 (hcl p hp ((hNx p hp).2 ⟨i,k,hi,hk,(same i hi).1 ho,hxk,e⟩))⟩
      obtain ⟨q,rfl⟩:∃ q',q=(q' + 1) + 730 + 1:=⟨q - 732,by omega⟩
      simp only
      rw [start (q + 1) (by omega),bellpullref05_Images.l1,if_neg (by simp)]
theorem RT.star {a:Ex} {T:List Bool} (hT:RT a T):∃ R,Ev (fun q=>bellpullref05_Images.l1 q ((List.replicate 729 false).set 0 true) T true) R∧RT (.s a) R:=by
  have z0:vecN 0=(0,0,0):=rfl
  have hz:∀ p,On ((List.replicate 729 false).set 0 true) p ↔ p=0:=fun p=>by
    rw [On_set List.length_replicate (by omega)]
    by_cases e:p=0
    · simp [e]
    · rw [if_neg e]
      exact ⟨fun h=>absurd h (On_zeros p),fun h=>absurd h e⟩
  obtain ⟨R,h1,h2,h3,h4,h5⟩:=star_go (den a) T hT.1 (fun p hp h=>(hT.2 p hp).1 h) _ ((List.replicate 729 false).set 0 true) rfl (by rw [List.length_set];exact List.length_replicate) (fun p hp h=>by
    rw [(hz p).1 h,z0];exact .zero) ((hz 0).2 rfl)
  refine ⟨R,h1,h2,fun p hp=>⟨h3 p hp,fun h=>?_⟩⟩
  have all:∀ v,StarP (den a) v → sm9 v → On R (idxN v):=fun v hv=>by
    induction hv with
    | zero=>exact fun _=>h4
    | @add u t hu ht ih =>
      intro s
      have n1:=nn_star (nn_den a) _ ht
      have n2:=nn_den a _ hu
      have sx:sm9 t∧sm9 u:=by
        obtain ⟨s1,s2,s3⟩:=s
        unfold add3 at s1 s2 s3
        simp only at s1 s2 s3
        obtain ⟨a1,a2,a3⟩:=n1
        obtain ⟨b1,b2,b3⟩:=n2
        exact ⟨⟨by omega,by omega,by omega⟩,⟨by omega,by omega,by omega⟩⟩
      obtain ⟨t1,t2⟩:=vec_idx sx.1
      obtain ⟨u1,u2⟩:=vec_idx sx.2
      obtain ⟨w1,w2⟩:=vec_idx s
      exact h5 _ w1 ⟨idxN t,idxN u,t1,u1,ih sx.1,(hT.2 _ u1).2 (by rw [u2];exact hu),by rw [t2,u2,w2]⟩
  have:=all _ h (sm_vec hp)
  have e:idxN (vecN p)=p:=vec_inj (vec_idx (sm_vec hp)).1 hp (vec_idx (sm_vec hp)).2
  rwa [e] at this
end Go.Proofs.Ytkonljiembcdlaa.PC
/- The reference's parts of an expression, and their tables, in plain Lean. -/
set_option linter.unusedVariables false
set_option linter.unusedSimpArgs false
namespace Go.Proofs.Ytkonljiembcdlaa.PC
open Go.Proofs.MyWords Go.RowKit Go.Proofs.YtkonljiembcdlaaW.PrintWords Go.Proofs.YtkonljiembcdlaaW.PrintLast Go.Proofs.YtkonljiembcdlaaW.PrintMore
open Go.Proofs.Mach (Ex)
open Go.Proofs.Ytkonljiembcdlaa.Pure
def letC (i:Int):Int:=if i=0 then 97 else if i=1 then 98 else if i=2 then 99 else 101
inductive Rep (N:List S98):Nat → Ex → Prop
  | l {n j i}:n=j → (i=0 ∨ i=1 ∨ i=2 ∨ i=-1) → N[n]?=some ⟨letC i,[]⟩ → Rep N j (.l i)
  | s {n a e}:N[n]?=some ⟨42,[((a:Nat):Int)]⟩ → Rep N a e → Rep N n (.s e)
  | j {n a b e f}:N[n]?=some ⟨46,[((a:Nat):Int),((b:Nat):Int)]⟩ → Rep N a e → Rep N b f → Rep N n (.j e f)
  | e {n a b e f}:N[n]?=some ⟨43,[((a:Nat):Int),((b:Nat):Int)]⟩ → Rep N a e → Rep N b f → Rep N n (.e e f)
theorem getE_app {α:Type} {l:List α} {n:Nat} {x:α} (h:l[n]?=some x) (t:List α):(l ++ t)[n]?=some x:=by
  have hn:n < l.length:=by
    apply Classical.byContradiction
    intro hh
    rw [List.getElem?_eq_none (by omega)] at h
    cases h
  rw [List.getElem?_append_left hn]
  exact h
theorem Rep.app {N:List S98} {i:Nat} {e:Ex} (h:Rep N i e) (t:List S98):Rep (N ++ t) i e:=by
  induction h with
  | l h1 h2 h3=>exact .l h1 h2 (getE_app h3 t)
  | s h1 _ ih=>exact .s (getE_app h1 t) ih
  | j h1 _ _ ih1 ih2=>exact .j (getE_app h1 t) ih1 ih2
  | e h1 _ _ ih1 ih2=>exact .e (getE_app h1 t) ih1 ih2
theorem Rep.lt {N:List S98} {i:Nat} {e:Ex} (h:Rep N i e):i < N.length:=by
  have:∀ {n:Nat} {x:S98},N[n]?=some x → n < N.length:=fun {n x} h=>by
    apply Classical.byContradiction
    intro hh
    rw [List.getElem?_eq_none (by omega)] at h
    cases h
  cases h with
  | l h1 _ h3=>exact h1 ▸ this h3
  | s h1 _=>exact this h1
  | j h1 _ _=>exact this h1
  | e h1 _ _=>exact this h1
theorem bt_data (s:ByteArray) (i:Nat) (h:i < s.data.toList.length):bt s (i:Int)=((s.data.toList[i]'h).toNat:Int):=by
  have hs:i < s.size:=by simpa using h
  unfold bt
  rw [Int.toNat_natCast,dif_pos hs]
  congr 1
theorem byte_ne {c:UInt8} {n:Nat} (hn:n < 256) (h:c ≠ UInt8.ofNat n):¬ (c.toNat:Int)=(n:Int):=fun e=>h (by
  have e2:c.toNat=n:=by omega
  rw [← e2]
  simp)
section
variable {s:ByteArray} {N:List S98} {stk:List Int} {i:Nat}
theorem parse_letter (hi:i < s.size) (hN:N.length < 1000000) (hl:stk.length < 1000000) {b:Int} (hb:bt s (i:Int)=b) (h4:b=97 ∨ b=98 ∨ b=99 ∨ b=101) (k:Nat) (hs:s.size < 1000000) :
    bellpullref05_Parse.l0 (k + 2) s N stk (i:Int)=bellpullref05_Parse.l0 k s (N ++ [⟨b,[]⟩]) (stk ++ [(i:Int)]) ((i + 1:Nat):Int):=by
  have q0:(i:Int) < (s.size:Int):=by omega
  have q1:(0:Int) ≤ (i:Int):=by omega
  have ws:wrap64 ((i:Int) + 1)=((i + 1:Nat):Int):=by rw [wrap_id (by omega) (by omega)];omega
  have w0:wrap64 ((stk.length:Int) - 0)=(stk.length:Int):=by rw [Int.sub_zero,wrap_id (by omega) (by omega)]
  have j:bellpullref05_Parse.j1 (k + 1) s N stk (i:Int) 0 b true=bellpullref05_Parse.l0 k s (N ++ [⟨b,[]⟩]) (stk ++ [(i:Int)]) ((i + 1:Nat):Int):=by
    rw [bellpullref05_Parse.j1,if_pos rfl,if_neg (by omega),if_pos q1,if_pos q0,Option.bind_some,w0,if_pos (by omega),if_pos (by omega),Int.toNat_natCast,List.drop_length,List.take_length,Option.bind_some,
      if_pos (by simp),if_pos (by omega),Option.bind_some,Option.bind_some,if_pos (by simp;omega),Option.bind_some,if_pos (by simp;omega),hb,ws]
    rfl
  rw [bellpullref05_Parse.l0,if_pos q0,if_pos q1,hb]
  rcases h4 with rfl|rfl|rfl|rfl
  · rw [if_pos rfl];exact j
  · rw [if_neg (by decide),if_pos rfl];exact j
  · rw [if_neg (by decide),if_neg (by decide),if_pos rfl];exact j
  · rw [if_neg (by decide),if_neg (by decide),if_neg (by decide)];exact j
theorem parse_other (hi:i < s.size) {b:Int} (hb:bt s (i:Int)=b) (h4:b ≠ 97∧b ≠ 98∧b ≠ 99∧b ≠ 101) (k:Nat) :
    bellpullref05_Parse.l0 (k + 1) s N stk (i:Int)=bellpullref05_Parse.j1 k s N stk (i:Int) 0 b false:=by
  rw [bellpullref05_Parse.l0,if_pos (by omega),if_pos (by omega),hb,if_neg h4.1,if_neg h4.2.1,if_neg h4.2.2.1]
  have:(b == 101)=false:=by simpa using h4.2.2.2
  rw [this]
theorem parse_star (hi:i < s.size) (hN:N.length < 1000000) {st:List Int} {a:Int} (hstk:stk=st ++ [a]) (hl:stk.length < 1000000) (hb:bt s (i:Int)=42) (k:Nat) (hs:s.size < 1000000) :
    bellpullref05_Parse.l0 (k + 2) s N stk (i:Int)=bellpullref05_Parse.l0 k s (N ++ [⟨42,[a]⟩]) (st ++ [(i:Int)]) ((i + 1:Nat):Int):=by
  have q0:(i:Int) < (s.size:Int):=by omega
  have q1:(0:Int) ≤ (i:Int):=by omega
  have ws:wrap64 ((i:Int) + 1)=((i + 1:Nat):Int):=by rw [wrap_id (by omega) (by omega)];omega
  have hlen:stk.length=st.length + 1:=by rw [hstk];simp
  have w0:wrap64 ((stk.length:Int) - 1)=(st.length:Int):=by rw [wrap_id (by omega) (by omega)];omega
  have hd:stk.drop st.length=[a]:=by rw [hstk];simp
  have ht:stk.take st.length=st:=by rw [hstk];simp
  rw [parse_other hi hb (by decide),bellpullref05_Parse.j1,if_neg (by simp),if_pos rfl,if_neg (by omega),if_pos q1,if_pos q0,Option.bind_some,w0,if_pos (by omega),if_pos (by omega),Int.toNat_natCast,hd,ht,Option.bind_some,
      if_pos (by simp),if_pos (by omega),Option.bind_some,Option.bind_some,if_pos (by simp;omega),Option.bind_some,if_pos (by simp;omega),hb,ws]
  rfl
theorem parse_two (hi:i < s.size) (hN:N.length < 1000000) {st:List Int} {a c:Int} (hstk:stk=st ++ [a,c]) (hl:stk.length < 1000000) {b:Int} (hb:bt s (i:Int)=b) (h2:b=46 ∨ b=43) (k:Nat) (hs:s.size < 1000000) :
    bellpullref05_Parse.l0 (k + 3) s N stk (i:Int)=bellpullref05_Parse.l0 k s (N ++ [⟨b,[a,c]⟩]) (st ++ [(i:Int)]) ((i + 1:Nat):Int):=by
  have q0:(i:Int) < (s.size:Int):=by omega
  have q1:(0:Int) ≤ (i:Int):=by omega
  have ws:wrap64 ((i:Int) + 1)=((i + 1:Nat):Int):=by rw [wrap_id (by omega) (by omega)];omega
  have hlen:stk.length=st.length + 2:=by rw [hstk];simp
  have w0:wrap64 ((stk.length:Int) - 2)=(st.length:Int):=by rw [wrap_id (by omega) (by omega)];omega
  have hd:stk.drop st.length=[a,c]:=by rw [hstk];simp
  have ht:stk.take st.length=st:=by rw [hstk];simp
  have j:bellpullref05_Parse.j2 (k + 1) s N stk (i:Int) true=bellpullref05_Parse.l0 k s (N ++ [⟨b,[a,c]⟩]) (st ++ [(i:Int)]) ((i + 1:Nat):Int):=by
    rw [bellpullref05_Parse.j2,if_pos rfl,if_neg (by omega),if_pos q1,if_pos q0,Option.bind_some,w0,if_pos (by omega),if_pos (by omega),Int.toNat_natCast,hd,ht,Option.bind_some,
      if_pos (by simp),if_pos (by omega),Option.bind_some,Option.bind_some,if_pos (by simp;omega),Option.bind_some,if_pos (by simp;omega),hb,ws]
    rfl
  rcases h2 with rfl|rfl
  · rw [parse_other hi hb (by decide),bellpullref05_Parse.j1,if_neg (by simp),if_neg (by decide),if_pos rfl]
    exact j
  · rw [parse_other hi hb (by decide),bellpullref05_Parse.j1,if_neg (by simp),if_neg (by decide),if_neg (by decide)]
    exact j
theorem parse_bad (hi:i < s.size) {b:Int} (hb:bt s (i:Int)=b) (h:b=42∧stk.length < 1 ∨ (b=46 ∨ b=43)∧stk.length < 2 ∨ (b ≠ 97∧b ≠ 98∧b ≠ 99∧b ≠ 101∧b ≠ 46∧b ≠ 43∧b ≠ 42)) (k:Nat) :
    bellpullref05_Parse.l0 (k + 3) s N stk (i:Int)=some ([],false):=by
  rcases h with ⟨rfl,h⟩|⟨rfl|rfl,h⟩|⟨h1,h2,h3,h4,h5,h6,h7⟩
  · rw [parse_other hi hb (by decide),bellpullref05_Parse.j1,if_neg (by simp),if_pos rfl,if_pos (by omega)]
  · rw [parse_other hi hb (by decide),bellpullref05_Parse.j1,if_neg (by simp),if_neg (by decide),if_pos rfl,bellpullref05_Parse.j2,if_pos (by decide),if_pos (by omega)]
  · rw [parse_other hi hb (by decide),bellpullref05_Parse.j1,if_neg (by simp),if_neg (by decide),if_neg (by decide),bellpullref05_Parse.j2,if_pos (by decide),if_pos (by omega)]
  · rw [parse_other hi hb ⟨h1,h2,h3,h4⟩,bellpullref05_Parse.j1,if_neg (by simp),if_neg h7,if_neg h5,bellpullref05_Parse.j2,if_neg (by simpa using h6)]
end
def RepJ (N:List S98) (e:Ex) (j:Int):Prop:=∃ n:Nat,j=(n:Int)∧Rep N n e
def Parsed (s:ByteArray) (N:List S98) (stk:List Int):Option (Option Ex) → Prop
  | none=>False
  | some none=>∃ N',Ev (fun k=>bellpullref05_Parse.l0 k s N stk (N.length:Int)) (N',false)
  | some (some e)=>∃ N',Ev (fun k=>bellpullref05_Parse.l0 k s N stk (N.length:Int)) (N',true)∧0 < N'.length∧N'.length ≤ s.size∧Rep N' (N'.length - 1) e
theorem Ev.jump {α:Type} {g f:Nat → Option α} {r:α} (m:Nat) (h:∀ k,g (k + m)=f k) (e:Ev f r):Ev g r:=by
  obtain ⟨K,hK⟩:=e
  refine ⟨K + m,fun k hk=>?_⟩
  have:=h (k - m)
  rw [show k - m + m=k by omega] at this
  rw [this]
  exact hK _ (by omega)
theorem Parsed.go {s:ByteArray} {N:List S98} {stk:List Int} {x:S98} {stk':List Int} {o:Option (Option Ex)} (m:Nat) (h:∀ k,bellpullref05_Parse.l0 (k + m) s N stk (N.length:Int)=bellpullref05_Parse.l0 k s (N ++ [x]) stk' ((N.length + 1:Nat):Int)) (p:Parsed s (N ++ [x]) stk' o):Parsed s N stk o:=by
  have e:((N ++ [x]).length:Int)=((N.length + 1:Nat):Int):=by simp
  match o,p with
  | some none,⟨N',h1⟩=>exact ⟨N',Ev.jump m h (by rw [e] at h1;exact h1)⟩
  | some (some _),⟨N',h1,h2⟩=>exact ⟨N',Ev.jump m h (by rw [e] at h1;exact h1),h2⟩
open Go.Proofs.Mach (Rel2 runX signs7) in
theorem parse_go (s:ByteArray) (hs:s.size < 1000000):∀ (r pre:List UInt8) (N:List S98) (es:List Ex) (stk:List Int),s.data.toList=pre ++ r → pre.length=N.length → stk.length ≤ N.length → Rel2 (RepJ N) es stk → (∀ st j,stk=st ++ [j] → j + 1=(N.length:Int)) → Parsed s N stk (runX r es)
  | [],pre,N,es,stk,hd,hN,hle,hr,htop=>by
    have hsz:s.size=N.length:=by
      have:=congrArg List.length hd
      simp at this
      omega
    have key:Ev (fun k=>bellpullref05_Parse.l0 k s N stk (N.length:Int)) (N,((stk.length:Int) == 1)):=by
      refine Ev.succ ?_
      simp only [bellpullref05_Parse.l0]
      exact Ev.neg (by omega) (Ev.now _)
    match es,stk,hr,htop,key with
    | [],[],_,_,key=>exact ⟨N,key⟩
    | [e],[j],.cons ⟨n,hj,h1⟩ _,htop,key =>
      have:=htop [] j rfl
      have hl:=h1.lt
      exact ⟨N,key,by omega,by omega,by rw [show N.length - 1=n by omega];exact h1⟩
    | e :: e' :: es,j :: j' :: st,_,_,key =>
      have:(((j :: j' :: st).length:Int) == 1)=false:=by simp;omega
      rw [this] at key
      exact ⟨N,key⟩
  | c :: r,pre,N,es,stk,hd,hN,hle,hr,htop=>by
    have hsz:s.size=N.length + (r.length + 1):=by
      have:=congrArg List.length hd
      simp at this
      omega
    have hi:N.length < s.size:=by omega
    have hbt:bt s (N.length:Int)=(c.toNat:Int):=by
      rw [bt_data s N.length (by rw [hd];simp;omega)]
      have:s.data.toList[N.length]'(by rw [hd];simp;omega)=c:=by
        simp only [hd]
        rw [List.getElem_append_right (by omega)]
        simp [hN]
      rw [this]
    have hNs:N.length < 1000000:=by omega
    have hls:stk.length < 1000000:=by omega
    have up:∀ (x:S98) (es':List Ex) (st:List Int) (m:Nat),runX (c :: r) es=runX r es' → (∀ k,bellpullref05_Parse.l0 (k + m) s N stk (N.length:Int)=bellpullref05_Parse.l0 k s (N ++ [x]) (st ++ [(N.length:Int)]) ((N.length + 1:Nat):Int)) → st.length ≤ N.length → Rel2 (RepJ (N ++ [x])) es' (st ++ [(N.length:Int)]) → Parsed s N stk (runX (c :: r) es):=fun x es' st m he hk hst hr'=>by
      rw [he]
      refine Parsed.go m hk (parse_go s hs r (pre ++ [c]) (N ++ [x]) es' _ (by rw [hd];simp) (by simp [hN]) (by simp;omega) hr' ?_)
      intro st' j hj
      have:=(List.append_inj' hj rfl).2
      simp at this
      rw [← this];simp
    have lift:∀ (x:S98) (a:Ex) (j:Int),RepJ N a j → RepJ (N ++ [x]) a j:=fun x a j ⟨n,h1,h2⟩=>⟨n,h1,h2.app _⟩
    have top:∀ (x:S98),(N ++ [x])[N.length]?=some x:=fun x=>by simp
    have lt:∀ i,(c=97∧i=0 ∨ c=98∧i=1 ∨ c=99∧i=2 ∨ c=101∧i=-1) → Parsed s N stk (runX (c :: r) es):=fun i hci=>by
      have hb:bt s (N.length:Int)=letC i:=by
        rw [hbt]
        rcases hci with ⟨rfl,rfl⟩|⟨rfl,rfl⟩|⟨rfl,rfl⟩|⟨rfl,rfl⟩ <;> rfl
      have h4:letC i=97 ∨ letC i=98 ∨ letC i=99 ∨ letC i=101:=by
        rcases hci with ⟨_,rfl⟩|⟨_,rfl⟩|⟨_,rfl⟩|⟨_,rfl⟩ <;> decide
      refine up ⟨letC i,[]⟩ (es ++ [.l i]) stk 2 ?_ (fun k=>parse_letter hi hNs hls hb h4 k hs) hle ?_
      · unfold runX;rw [Mach.run,Mach.step_letter _ _ _ _ hci];rfl
      · exact (hr.mono (lift _)).snoc ⟨N.length,rfl,.l rfl (by rcases hci with h|h|h|h <;> simp [h.2]) (top _)⟩
    have bad:(((c.toNat:Int)=42∧stk.length < 1) ∨ ((c.toNat:Int)=46 ∨ (c.toNat:Int)=43)∧stk.length < 2 ∨ ((c.toNat:Int) ≠ 97∧(c.toNat:Int) ≠ 98∧(c.toNat:Int) ≠ 99∧(c.toNat:Int) ≠ 101∧(c.toNat:Int) ≠ 46∧(c.toNat:Int) ≠ 43∧(c.toNat:Int) ≠ 42)) → runX (c :: r) es=some none → Parsed s N stk (runX (c :: r) es):=fun h he=>by
      rw [he]
      exact ⟨[],Ev.jump 3 (f:=fun _=>some ([],false)) (fun k=>parse_bad hi hbt h k) (Ev.now _)⟩
    rcases signs7 c with rfl|rfl|rfl|rfl|rfl|rfl|rfl|ho
    · exact lt 0 (by simp)
    · exact lt 1 (by simp)
    · exact lt 2 (by simp)
    · exact lt (-1) (by simp)
    · by_cases h2:2 ≤ es.length
      · obtain ⟨t,a,b,rfl⟩:=Mach.last_two h2
        obtain ⟨st,x,y,rfl,hr1,⟨n,rfl,hx⟩,⟨m,rfl,hy⟩⟩:=hr.last2
        refine up ⟨46,[(n:Int),(m:Int)]⟩ (t ++ [.j a b]) st 3 ?_ (fun k=>parse_two hi hNs rfl hls hbt (.inl rfl) k hs) (by simp at hle;omega) ?_
        · unfold runX;rw [Mach.run,Mach.step_dot];rfl
        · exact (hr1.mono (lift _)).snoc ⟨N.length,rfl,.j (top _) (hx.app _) (hy.app _)⟩
      · refine bad (.inr (.inl ⟨.inl rfl,by rw [← hr.len];omega⟩)) ?_
        unfold runX;rw [Mach.run,Mach.step_few _ _ _ _ (.inl ⟨.inl rfl,by omega⟩)];rfl
    · by_cases h2:2 ≤ es.length
      · obtain ⟨t,a,b,rfl⟩:=Mach.last_two h2
        obtain ⟨st,x,y,rfl,hr1,⟨n,rfl,hx⟩,⟨m,rfl,hy⟩⟩:=hr.last2
        refine up ⟨43,[(n:Int),(m:Int)]⟩ (t ++ [.e a b]) st 3 ?_ (fun k=>parse_two hi hNs rfl hls hbt (.inr rfl) k hs) (by simp at hle;omega) ?_
        · unfold runX;rw [Mach.run,Mach.step_plus];rfl
        · exact (hr1.mono (lift _)).snoc ⟨N.length,rfl,.e (top _) (hx.app _) (hy.app _)⟩
      · refine bad (.inr (.inl ⟨.inr rfl,by rw [← hr.len];omega⟩)) ?_
        unfold runX;rw [Mach.run,Mach.step_few _ _ _ _ (.inl ⟨.inr rfl,by omega⟩)];rfl
    · by_cases h2:1 ≤ es.length
      · obtain ⟨t,a,rfl⟩:=Mach.last_one h2
        obtain ⟨st,x,rfl,hr1,⟨n,rfl,hx⟩⟩:=hr.last
        refine up ⟨42,[(n:Int)]⟩ (t ++ [.s a]) st 2 ?_ (fun k=>parse_star hi hNs rfl hls hbt k hs) (by simp at hle;omega) ?_
        · unfold runX;rw [Mach.run,Mach.step_star];rfl
        · exact (hr1.mono (lift _)).snoc ⟨N.length,rfl,.s (top _) (hx.app _)⟩
      · refine bad (.inl ⟨rfl,by rw [← hr.len];omega⟩) ?_
        unfold runX;rw [Mach.run,Mach.step_few _ _ _ _ (.inr ⟨rfl,by omega⟩)];rfl
    · obtain ⟨h1,h2,h3,h4,h5,h6,h7⟩:=ho
      refine bad (.inr (.inr ⟨byte_ne (n:=97) (by omega) h1,byte_ne (n:=98) (by omega) h2,byte_ne (n:=99) (by omega) h3,byte_ne (n:=101) (by omega) h4,byte_ne (n:=46) (by omega) h5,byte_ne (n:=43) (by omega) h6,byte_ne (n:=42) (by omega) h7⟩)) ?_
      unfold runX;rw [Mach.run,Mach.step_other _ _ _ _ ⟨h1,h2,h3,h4,h5,h6,h7⟩];rfl
theorem parse_ev (s:ByteArray) (hs:s.size < 1000000):Parsed s [] [] (Mach.runX s.data.toList []) :=
  parse_go s hs s.data.toList [] [] [] [] rfl rfl (Nat.le_refl _) .nil (fun st j h=>by simp at h)
end Go.Proofs.Ytkonljiembcdlaa.PC
/- The reference's tables of images, and what it accepts, in plain Lean. -/
set_option linter.unusedVariables false
set_option linter.unusedSimpArgs false
namespace Go.Proofs.Ytkonljiembcdlaa.PC
open Go.Proofs.MyWords Go.RowKit Go.Proofs.YtkonljiembcdlaaW.PrintWords Go.Proofs.YtkonljiembcdlaaW.PrintLast Go.Proofs.YtkonljiembcdlaaW.PrintMore
open Go.Proofs.Mach (Ex)
open Go.Proofs.Ytkonljiembcdlaa.Pure
theorem rdT98 {N:List S98} {n:Nat} {x:S98} (h:N[n]?=some x):rd_T98 N (n:Int)=x:=by
  unfold rd_T98
  rw [Int.toNat_natCast,List.getD_eq_getElem?_getD,h];rfl
theorem lt_of_get {N:List S98} {n:Nat} {x:S98} (h:N[n]?=some x):n < N.length:=by
  apply Classical.byContradiction
  intro hh
  rw [List.getElem?_eq_none (by omega)] at h
  cases h
theorem letter_f (i:Int) (hi:i=0 ∨ i=1 ∨ i=2 ∨ i=-1):bellpullref05_letter.f (letC i)=some (l3 (unit3 i)):=by
  rcases hi with rfl|rfl|rfl|rfl <;> decide +kernel
theorem sm_unit (i:Int) (hi:i=0 ∨ i=1 ∨ i=2 ∨ i=-1):sm9 (unit3 i):=by
  rcases hi with rfl|rfl|rfl|rfl <;> decide
theorem images_start (N:List S98) (n:Nat) {x:S98} (h:N[n]?=some x) (hN:N.length < 1000000) (k:Nat):bellpullref05_Images.f (k + 1) N (n:Int) =
    (if x.f0=43 then (if 0 < ((x.f1).length:Int) then ((bellpullref05_Images.f k N (rd x.f1 0)).bind fun t588=>(if 1 < ((x.f1).length:Int) then ((bellpullref05_Images.f k N (rd x.f1 1)).bind fun t592=>(bellpullref05_Images.l0 k (List.replicate 729 false) t588 t592 0)) else none)) else none) else
     if x.f0=46 then (if 0 < ((x.f1).length:Int) then ((bellpullref05_Images.f k N (rd x.f1 0)).bind fun t600=>(if 1 < ((x.f1).length:Int) then ((bellpullref05_Images.f k N (rd x.f1 1)).bind fun t604=>((bellpullref05_joined.f k t600 t604).bind fun t607=>some t607)) else none)) else none) else
     if x.f0=42 then (if 0 < ((x.f1).length:Int) then ((bellpullref05_Images.f k N (rd x.f1 0)).bind fun t611=>(if 0 < (((List.replicate 729 false).length:Nat):Int) then bellpullref05_Images.l1 k ((List.replicate 729 false).set (0:Int).toNat true) t611 true else none)) else none) else
     (bellpullref05_letter.f x.f0).bind fun t632=>(bellpullref05_index.f t632).bind fun t635=>(if 0 ≤ t635 then (if t635 < (((List.replicate 729 false).length:Nat):Int) then some ((List.replicate 729 false).set (t635:Int).toNat true) else none) else none)):=by
  have:=lt_of_get h
  rw [bellpullref05_Images.f,rdT98 h,if_pos (by omega),if_pos (by omega),if_pos (by decide),Option.bind_some]
theorem images_ev {N:List S98} (hN:N.length < 1000000):∀ {n:Nat} {e:Ex},Rep N n e → ∃ T,Ev (fun k=>bellpullref05_Images.f k N (n:Int)) T∧RT e T:=by
  intro n e h
  induction h with
  | @l n j i h1 hi h3 =>
    subst h1
    have hs:=vec_idx (sm_unit i hi)
    refine ⟨(List.replicate 729 false).set (idxN (unit3 i)) true,Ev.succ ?_,by rw [List.length_set];exact List.length_replicate,fun p hp=>?_⟩
    · simp only [images_start N n h3 hN]
      have c:letC i ≠ 43∧letC i ≠ 46∧letC i ≠ 42:=by rcases hi with rfl|rfl|rfl|rfl <;> decide
      refine Ev.neg c.1 (Ev.neg c.2.1 (Ev.neg c.2.2 (Ev.bindc (letter_f i hi) (Ev.bindc (index_f (sm_unit i hi)) (Ev.pos (by omega) (Ev.pos ?_ ?_))))))
      · rw [List.length_replicate];omega
      · rw [Int.toNat_natCast];exact Ev.now _
    · rw [On_set List.length_replicate hs.1]
      show _ ↔ vecN p=unit3 i
      by_cases e:p=idxN (unit3 i)
      · rw [if_pos e,e,hs.2]
        exact ⟨fun _=>rfl,fun _=>rfl⟩
      · rw [if_neg e]
        exact ⟨fun h=>absurd h (On_zeros p),fun h=>absurd (vec_inj hp hs.1 (h.trans hs.2.symm)) e⟩
  | @s n a e h1 _ ih =>
    obtain ⟨T,hT,rT⟩:=ih
    obtain ⟨R,hR,rR⟩:=rT.star
    refine ⟨R,Ev.succ ?_,rR⟩
    simp only [images_start N n h1 hN]
    refine Ev.neg (by decide) (Ev.neg (by decide) (Ev.pos (by decide) (Ev.pos (by simp) (Ev.bind hT (Ev.pos ?_ hR)))))
    rw [List.length_replicate];omega
  | @j n a b e f h1 _ _ ih1 ih2 =>
    obtain ⟨T,hT,rT⟩:=ih1
    obtain ⟨U,hU,rU⟩:=ih2
    obtain ⟨R,hR,rR⟩:=rT.join rU
    refine ⟨R,Ev.succ ?_,rR⟩
    simp only [images_start N n h1 hN]
    exact Ev.neg (by decide) (Ev.pos (by decide) (Ev.pos (by simp) (Ev.bind hT (Ev.pos (by simp) (Ev.bind hU (Ev.bind hR (Ev.now _)))))))
  | @e n a b e f h1 _ _ ih1 ih2 =>
    obtain ⟨T,hT,rT⟩:=ih1
    obtain ⟨U,hU,rU⟩:=ih2
    obtain ⟨R,hR,rL,rR⟩:=or_go T U rT.1 rU.1 729 0 (List.replicate 729 false) rfl (by omega) List.length_replicate (fun p hp=>⟨fun h=>absurd h (On_zeros p),fun h=>by omega⟩)
    refine ⟨R,Ev.succ ?_,rL,fun p hp=>(rR p hp).trans (or_congr (rT.2 p hp) (rU.2 p hp))⟩
    simp only [images_start N n h1 hN]
    exact Ev.pos (by decide) (Ev.pos (by simp) (Ev.bind hT (Ev.pos (by simp) (Ev.bind hU hR))))
theorem refAccepts_ev {N:List S98} (hN:N.length < 1000000) (h0:0 < N.length) {e:Ex} (h:Rep N (N.length - 1) e) {v:FoundW.V3} (hv:sm9 v):∃ b,Ev (fun k=>bellpullref05_Accepts.f k N (l3 v)) b∧(b=true ↔ den e v):=by
  obtain ⟨T,hT,rT⟩:=images_ev hN h
  have hi:=vec_idx hv
  refine ⟨rdOf false T ((idxN v:Nat):Int),?_,by rw [rdOf_On,rT.2 _ hi.1,hi.2]⟩
  unfold bellpullref05_Accepts.f
  have w:wrap64 ((N.length:Int) - 1)=((N.length - 1:Nat):Int):=by rw [wrap_id (by omega) (by omega)];omega
  rw [w]
  refine Ev.bind hT (Ev.bindc (index_f hv) (Ev.pos (by omega) (Ev.pos ?_ (Ev.now _))))
  rw [rT.1];omega
end Go.Proofs.Ytkonljiembcdlaa.PC
namespace Go.Proofs.Ytkonljiembcdlaa.PC
open Go.Proofs.MyWords Go.RowKit Go.Proofs.YtkonljiembcdlaaW.PrintWords Go.Proofs.YtkonljiembcdlaaW.PrintLast Go.Proofs.YtkonljiembcdlaaW.PrintMore
attribute [local go_sem] max2_int min2_int max_two min_two max_three min_three max_four min_four   -- for this text's walks alone
set_option linter.unusedVariables false
set_option linter.unusedSimpArgs false
attribute [local go_sem] eqGuard_slices eqlnil23 neqnil23 eqlnil58 neqnil58
end Go.Proofs.Ytkonljiembcdlaa.PC
namespace Go.Proofs.Ytkonljiembcdlaa.PC
open Go.Proofs.MyWords Go.RowKit Go.Proofs.YtkonljiembcdlaaW.PrintWords Go.Proofs.YtkonljiembcdlaaW.PrintLast Go.Proofs.YtkonljiembcdlaaW.PrintMore
attribute [local go_sem] max2_int min2_int max_two min_two max_three min_three max_four min_four   -- for this text's walks alone
set_option linter.unusedVariables false
set_option linter.unusedSimpArgs false
attribute [local go_sem] eqGuard_slices eqlnil23 neqnil23 eqlnil58 neqnil58
end Go.Proofs.Ytkonljiembcdlaa.PC
namespace Go.Proofs.Ytkonljiembcdlaa.PC
open Go.Proofs.MyWords Go.RowKit Go.Proofs.YtkonljiembcdlaaW.PrintWords Go.Proofs.YtkonljiembcdlaaW.PrintLast Go.Proofs.YtkonljiembcdlaaW.PrintMore
attribute [local go_sem] max2_int min2_int max_two min_two max_three min_three max_four min_four   -- for this text's walks alone
set_option linter.unusedVariables false
set_option linter.unusedSimpArgs false
attribute [local go_sem] eqGuard_slices eqlnil23 neqnil23 eqlnil58 neqnil58
end Go.Proofs.Ytkonljiembcdlaa.PC
namespace Go.Proofs.Ytkonljiembcdlaa.PC
open Go.Proofs.MyWords Go.RowKit Go.Proofs.YtkonljiembcdlaaW.PrintWords Go.Proofs.YtkonljiembcdlaaW.PrintLast Go.Proofs.YtkonljiembcdlaaW.PrintMore
attribute [local go_sem] max2_int min2_int max_two min_two max_three min_three max_four min_four   -- for this text's walks alone
set_option linter.unusedVariables false
set_option linter.unusedSimpArgs false
attribute [local go_sem] eqGuard_slices eqlnil23 neqnil23 eqlnil58 neqnil58
end Go.Proofs.Ytkonljiembcdlaa.PC
namespace Go.Proofs.Ytkonljiembcdlaa.PC
open Go.Proofs.MyWords Go.RowKit Go.Proofs.YtkonljiembcdlaaW.PrintWords Go.Proofs.YtkonljiembcdlaaW.PrintLast Go.Proofs.YtkonljiembcdlaaW.PrintMore
attribute [local go_sem] max2_int min2_int max_two min_two max_three min_three max_four min_four   -- for this text's walks alone
set_option linter.unusedVariables false
set_option linter.unusedSimpArgs false
attribute [local go_sem] eqGuard_slices eqlnil23 neqnil23 eqlnil58 neqnil58
end Go.Proofs.Ytkonljiembcdlaa.PC
namespace Go.Proofs.Ytkonljiembcdlaa.PC
open Go.Proofs.MyWords Go.RowKit Go.Proofs.YtkonljiembcdlaaW.PrintWords Go.Proofs.YtkonljiembcdlaaW.PrintLast Go.Proofs.YtkonljiembcdlaaW.PrintMore
attribute [local go_sem] max2_int min2_int max_two min_two max_three min_three max_four min_four   -- for this text's walks alone
set_option linter.unusedVariables false
set_option linter.unusedSimpArgs false
attribute [local go_sem] eqGuard_slices eqlnil23 neqnil23 eqlnil58 neqnil58
end Go.Proofs.Ytkonljiembcdlaa.PC
namespace Go.Proofs.Ytkonljiembcdlaa.PC
open Go.Proofs.MyWords Go.RowKit Go.Proofs.YtkonljiembcdlaaW.PrintWords Go.Proofs.YtkonljiembcdlaaW.PrintLast Go.Proofs.YtkonljiembcdlaaW.PrintMore
attribute [local go_sem] max2_int min2_int max_two min_two max_three min_three max_four min_four   -- for this text's walks alone
set_option linter.unusedVariables false
set_option linter.unusedSimpArgs false
attribute [local go_sem] eqGuard_slices eqlnil23 neqnil23 eqlnil58 neqnil58
end Go.Proofs.Ytkonljiembcdlaa.PC
namespace Go.Proofs.Ytkonljiembcdlaa.PC
open Go.Proofs.MyWords Go.RowKit Go.Proofs.YtkonljiembcdlaaW.PrintWords Go.Proofs.YtkonljiembcdlaaW.PrintLast Go.Proofs.YtkonljiembcdlaaW.PrintMore
attribute [local go_sem] max2_int min2_int max_two min_two max_three min_three max_four min_four   -- for this text's walks alone
set_option linter.unusedVariables false
set_option linter.unusedSimpArgs false
attribute [local go_sem] eqGuard_slices eqlnil23 neqnil23 eqlnil58 neqnil58
end Go.Proofs.Ytkonljiembcdlaa.PC
/- Sums of periods, in plain Lean. -/
set_option linter.unusedVariables false
namespace Go.Proofs.Ytkonljiembcdlaa.Sem
abbrev Vec:=List Int
def addV:Vec → Vec → Vec
  | x :: v,y :: w=>(x + y) :: addV v w
  | _,_=>[]
def zeroN (d:Nat):Vec:=List.replicate d 0
def nnV (v:Vec):Prop:=∀ x,x ∈ v → 0 ≤ x
instance (v:Vec):Decidable (nnV v):=by unfold nnV;infer_instance
inductive Comb (d:Nat) (ps:List Vec):Vec → Prop
  | zero:Comb d ps (zeroN d)
  | add {p w}:p ∈ ps → Comb d ps w → Comb d ps (addV w p)
section
variable {d:Nat} {ps:List Vec}
end
end Go.Proofs.Ytkonljiembcdlaa.Sem
/- Differences of vectors, and sums of periods, as the program and the reference take them, in plain Lean. -/
set_option linter.unusedVariables false
set_option linter.unusedSimpArgs false
namespace Go.Proofs.Ytkonljiembcdlaa.Pure
open Go.RowKit Go.Proofs.MyWords Go.Proofs.YtkonljiembcdlaaW.PrintWords Go.Proofs.YtkonljiembcdlaaW.PrintLast Go.Proofs.YtkonljiembcdlaaW.PrintMore Go.Proofs.Ytkonljiembcdlaa.PC Go.Proofs.Ytkonljiembcdlaa.Sem
theorem wsucc {n:Nat} (h:n < 4611686018427387904):wrap64 ((n:Int) + 1)=((n + 1:Nat):Int):=by rw [wrap_id (by omega) (by omega)];omega
theorem len_snoc {α:Type} (pre:List α) (x:α):pre.length + 1=(pre ++ [x]).length:=by simp
theorem app_snoc {α:Type} (pre:List α) (x:α) (t:List α):pre ++ x :: t=(pre ++ [x]) ++ t:=by simp
theorem lt_app {α:Type} (pre:List α) (x:α) (t:List α):(pre.length:Int) < ((pre ++ x :: t).length:Int):=by simp;omega
end Go.Proofs.Ytkonljiembcdlaa.Pure
/- Has, of the program and of the reference, in plain Lean. -/
set_option linter.unusedVariables false
set_option linter.unusedSimpArgs false
namespace Go.Proofs.Ytkonljiembcdlaa.Pure
open Go.RowKit Go.Proofs.MyWords Go.Proofs.YtkonljiembcdlaaW.PrintWords Go.Proofs.YtkonljiembcdlaaW.PrintLast Go.Proofs.YtkonljiembcdlaaW.PrintMore Go.Proofs.Ytkonljiembcdlaa.PC Go.Proofs.Ytkonljiembcdlaa.Sem
end Go.Proofs.Ytkonljiembcdlaa.Pure
/- Which error semilinear sets have, by the program and by the reference, in plain Lean. -/
set_option linter.unusedVariables false
set_option linter.unusedSimpArgs false
namespace Go.Proofs.Ytkonljiembcdlaa.Pure
open Go.RowKit Go.Proofs.MyWords Go.Proofs.YtkonljiembcdlaaW.PrintWords Go.Proofs.YtkonljiembcdlaaW.PrintLast Go.Proofs.YtkonljiembcdlaaW.PrintMore Go.Proofs.Ytkonljiembcdlaa.PC Go.Proofs.Ytkonljiembcdlaa.Sem
section
variable (d:Int) (lg:Bool) (ss:List (List S60)) (n2 i2:Int) (set:List S60) (n1 i1:Int)
end
end Go.Proofs.Ytkonljiembcdlaa.Pure
/- What the statements cut off, in plain Lean. -/
set_option linter.unusedVariables false
set_option linter.unusedSimpArgs false
namespace Go.Proofs.Ytkonljiembcdlaa.Pure
open Go.RowKit Go.Proofs.MyWords Go.Proofs.YtkonljiembcdlaaW.PrintWords Go.Proofs.YtkonljiembcdlaaW.PrintLast Go.Proofs.YtkonljiembcdlaaW.PrintMore Go.Proofs.Ytkonljiembcdlaa.PC Go.Proofs.Ytkonljiembcdlaa.Sem
theorem cut_f (v:List Int):bellpulllaw05_cut.f v=some (v.take 4):=by
  unfold bellpulllaw05_cut.f mn
  rw [Option.bind_some]
  by_cases h:(4:Int) < (v.length:Int)
  · rw [if_pos h,if_pos (by omega),if_pos (by omega),Option.bind_some,if_pos (by simp;omega)]
    rfl
  · rw [if_neg h,if_pos (by omega),if_pos (by omega),Option.bind_some,Int.toNat_natCast,List.take_length,if_pos (by simp;omega),List.take_of_length_le (by omega)]
    rfl
theorem text_f (s:ByteArray):∃ t,bellpulllaw05_text.f s=some t∧t.size ≤ 31:=by
  unfold bellpulllaw05_text.f mn
  by_cases h:(31:Int) < (s.size:Int)
  · rw [if_pos h,if_pos (by omega),if_pos (by omega)]
    exact ⟨_,rfl,by rw [ByteArray.size_extract];omega⟩
  · rw [if_neg h,if_pos (by omega),if_pos (by omega)]
    exact ⟨_,rfl,by rw [ByteArray.size_extract];omega⟩
end Go.Proofs.Ytkonljiembcdlaa.Pure
/- The document's examples. -/
set_option linter.unusedVariables false
namespace Go.Proofs.Ytkonljiembcdlaa.Pure
open Go.RowKit Go.Proofs.YtkonljiembcdlaaW.PrintWords Go.Proofs.Ytkonljiembcdlaa.PC
theorem lives_ev:Ev (fun k=>bellpulllaw05_lives.f k) true :=
  Ev.of (fun k=>bellpulllaw05_lives.mono k) (k:=60) (by kernel_rfl)
end Go.Proofs.Ytkonljiembcdlaa.Pure
/- CountAccepts: for every input the law returns true. -/
set_option linter.unusedVariables false
set_option linter.unusedSimpArgs false
namespace Go.Proofs.Ytkonljiembcdlaa.Pure
open Go.RowKit Go.Proofs.MyWords Go.Proofs.YtkonljiembcdlaaW.PrintWords Go.Proofs.YtkonljiembcdlaaW.PrintLast Go.Proofs.YtkonljiembcdlaaW.PrintMore Go.Proofs.Ytkonljiembcdlaa.PC
theorem in8 (x:Int):bellpullref01_In.f x 0 8=some (!(decide (x < 0) || decide (8 < x))):=by
  unfold bellpullref01_In.f
  by_cases h:x ≥ 0
  · rw [if_pos h,decide_eq_false (show ¬ x < 0 by omega),Bool.false_or]
    congr 1
    by_cases h2:x ≤ 8
    · rw [decide_eq_true h2,decide_eq_false (by omega)];rfl
    · rw [decide_eq_false h2,decide_eq_true (by omega)];rfl
  · rw [if_neg h,decide_eq_true (show x < 0 by omega)];rfl
def badOf (s:ByteArray) (v:List Int) (e:Int):Int:=if (s.size:Int) > 30 then 3 else if (v.any fun x=>decide (x < 0) || decide (8 < x))=true then 1 else e
theorem acc_l0 (s:ByteArray) (p:Bool) (q:Int) (N:List S98):∀ (t pre:List Int) (e:Int),(pre ++ t).length < 1000 → Ev (fun k=>bellpulllaw05_CountAccepts.j3 k (pre ++ t) p q (badOf s t e) N) true → Ev (fun k=>bellpulllaw05_CountAccepts.l0 k s (pre ++ t) p q e N (pre.length:Int)) true
  | [],pre,e,hl,h=>by
    refine Ev.succ ?_
    simp only [bellpulllaw05_CountAccepts.l0]
    refine Ev.neg (by simp) ?_
    unfold badOf at h
    by_cases hs:(s.size:Int) > 30
    · rw [if_pos hs] at h;exact Ev.pos hs h
    · rw [if_neg hs,if_neg (by simp)] at h;exact Ev.neg hs h
  | x :: t,pre,e,hl,h=>by
    have ws:wrap64 ((pre.length:Int) + 1)=((pre.length + 1:Nat):Int):=wsucc (by simp at hl;omega)
    have ih:=fun e h=>acc_l0 s p q N t (pre ++ [x]) e (by rw [← app_snoc];exact hl) (by rw [← app_snoc];exact h)
    rw [← app_snoc,← len_snoc] at ih
    refine Ev.succ ?_
    simp only [bellpulllaw05_CountAccepts.l0,rd_app,ws]
    refine Ev.pos (lt_app _ _ _) (Ev.pos (by omega) (Ev.bindc (in8 x) ?_))
    unfold badOf at h ih
    rw [List.any_cons] at h
    cases hx:(decide (x < 0) || decide (8 < x))
    · rw [hx,Bool.false_or] at h
      exact Ev.pos rfl (ih e h)
    · rw [hx,Bool.true_or,if_pos rfl] at h
      refine Ev.neg (by simp) (ih 1 ?_)
      rw [ite_self]
      exact h
theorem CountAccepts:bellpulllaw05_CountAccepts.Pure:=by
  intro a0 l1 h0 h1 h2 hw
  refine Ev.rounds (g:=fun k=>bellpulllaw05_CountAccepts.f k a0 l1) ?_
  obtain ⟨s,hs,hsz⟩:=text_f a0
  obtain ⟨v,hv⟩:∃ v,v=l1.take 4:=⟨_,rfl⟩
  have hvl:v.length ≤ 4:=by rw [hv];simp;omega
  have hp:=parse_ev s (by omega)
  unfold bellpulllaw05_CountAccepts.f
  refine Ev.bindc hs (Ev.bindc (cut_f l1) ?_)
  rw [← hv]
  obtain ⟨outb,hout⟩:∃ b,b=v.any fun x=>decide (x < 0) || decide (8 < x):=⟨_,rfl⟩
  -- the two answers, the parts and the rest
  have rest:∀ (is:Bool) (e:Int) (N:List S98) (ok:Bool),Ev (fun k=>count_Accepts.f k s v) (is,e) → Ev (fun k=>bellpullref05_Parse.f k s) (N,ok) →
      (badOf s v (if ok=true∧v.length=3 then 0 else 2)=0 → e=0∧Ev (fun k=>bellpullref05_Accepts.f k N v) is) → (badOf s v (if ok=true∧v.length=3 then 0 else 2) ≠ 0 → is=false∧e=badOf s v (if ok=true∧v.length=3 then 0 else 2)) →
      Ev (fun k=>(count_Accepts.f k s v).bind fun bt646=>(bellpullref05_Parse.f k s).bind fun bt648=>if bt648.2=true then bellpulllaw05_CountAccepts.j0 k s v bt646.1 bt646.2 0 bt648.1 ((v.length:Int) != 3) else bellpulllaw05_CountAccepts.j0 k s v bt646.1 bt646.2 0 bt648.1 true) true:=fun is e N ok hA hP h0 h1=>by
    refine Ev.bind hA (Ev.bind hP ?_)
    have fin:Ev (fun k=>bellpulllaw05_CountAccepts.j3 k v is e (badOf s v (if ok=true∧v.length=3 then 0 else 2)) N) true:=by
      refine Ev.succ ?_
      simp only [bellpulllaw05_CountAccepts.j3]
      by_cases hb:badOf s v (if ok=true∧v.length=3 then 0 else 2)=0
      · obtain ⟨rfl,h2⟩:=h0 hb
        refine Ev.pos hb (Ev.bind h2 ?_)
        cases is
        · exact Ev.neg (by simp) (Ev.neg (by simp) (Ev.pos rfl (Ev.bind lives_ev (Ev.now _))))
        · exact Ev.pos rfl (Ev.pos rfl (Ev.pos rfl (Ev.bind lives_ev (Ev.now _))))
      · obtain ⟨rfl,h2⟩:=h1 hb
        exact Ev.neg hb (Ev.neg (by simp) (Ev.pos h2 (Ev.bind lives_ev (Ev.now _))))
    have go:∀ e2,e2=(if ok=true∧v.length=3 then (0:Int) else 2) → Ev (fun k=>bellpulllaw05_CountAccepts.j1 k s v is e e2 N) true:=fun e2 he=>by
      refine Ev.succ ?_
      simp only [bellpulllaw05_CountAccepts.j1]
      exact acc_l0 s is e N v [] e2 (by simp;omega) (by rw [he];exact fin)
    have j0:∀ x:Bool,(if x=true then (2:Int) else 0)=(if ok=true∧v.length=3 then 0 else 2) → Ev (fun k=>bellpulllaw05_CountAccepts.j0 k s v is e 0 N x) true:=fun x hx=>by
      refine Ev.succ ?_
      simp only [bellpulllaw05_CountAccepts.j0]
      cases x
      · exact Ev.neg (by simp) (go 0 hx)
      · exact Ev.pos rfl (go 2 hx)
    cases ok
    · exact Ev.neg (by simp) (j0 true (by simp))
    · refine Ev.pos rfl (j0 _ ?_)
      by_cases h3:v.length=3
      · simp [h3]
      · have:((v.length:Int) != 3)=true:=by simp;omega
        rw [this];simp [h3]
  have bad_e:∀ e,badOf s v e=if (s.size:Int) > 30 then 3 else if outb=true then 1 else e:=fun e=>by unfold badOf;rw [hout]
  simp only [bad_e] at rest
  -- what the program tells
  have acc:∀ e,(if (s.size:Int) > 30 then 3 else if outb=true then 1 else if v.length=3 then (0:Int) else 2)=e → e ≠ 0 → Ev (fun k=>count_Accepts.f k s v) (false,e):=fun e he h=>by
    unfold count_Accepts.f
    by_cases q1:30 < s.size
    · rw [if_pos (by omega)] at he;subst he
      exact Ev.pos q1 (Ev.now _)
    · rw [if_neg (by omega)] at he
      refine Ev.neg q1 ?_
      rw [← hout]
      cases outb
      · rw [if_neg (by simp)] at he
        refine Ev.neg (by simp) ?_
        by_cases q3:v.length=3
        · rw [if_pos q3] at he;exact absurd he.symm h
        · rw [if_neg q3] at he;subst he
          exact Ev.neg q3 (Ev.now _)
      · rw [if_pos rfl] at he;subst he
        exact Ev.pos rfl (Ev.now _)
  obtain ⟨N,ok,hP,hok⟩:∃ N ok,Ev (fun k=>bellpullref05_Parse.f k s) (N,ok)∧(match Mach.runX s.data.toList [] with|some none=>ok=false|some (some e)=>ok=true∧0 < N.length∧N.length ≤ s.size∧Rep N (N.length - 1) e|none=>False):=by
    cases hr:Mach.runX s.data.toList [] with
    | none=>rw [hr] at hp;exact absurd hp id
    | some o =>
      cases o with
      | none=>rw [hr] at hp;obtain ⟨N,e1⟩:=hp;exact ⟨N,false,e1,rfl⟩
      | some x=>rw [hr] at hp;obtain ⟨N,e1,e2⟩:=hp;exact ⟨N,true,e1,rfl,e2⟩
  by_cases q:(if (s.size:Int) > 30 then 3 else if outb=true then 1 else if v.length=3 then (0:Int) else 2)=0
  · have q1:¬ (s.size:Int) > 30:=fun h=>by rw [if_pos h] at q;cases q
    rw [if_neg q1] at q
    have q2:¬ outb=true:=fun h=>by rw [if_pos h] at q;cases q
    rw [if_neg q2] at q
    have q3:v.length=3:=Classical.byContradiction (fun h=>by rw [if_neg h] at q;cases q)
    have hin:∀ x,x ∈ v → 0 ≤ x∧x ≤ 8:=fun x hx=>by
      apply Classical.byContradiction
      intro hn
      refine q2 (hout.trans (List.any_eq_true.2 ⟨x,hx,?_⟩))
      simp;omega
    have hm:=mok_v3 q3 hin
    obtain ⟨o,h1,h2⟩:=runF_den (v3of v) hm s.data.toList
    rw [h1] at hok
    cases o with
    | none =>
      subst hok
      refine rest false 2 N false ?_ hP (fun h=>?_) (fun h=>⟨rfl,?_⟩)
      · unfold count_Accepts.f
        refine Ev.neg (by omega) ?_
        rw [← hout]
        refine Ev.neg q2 (Ev.pos q3 (Ev.bind (a:=none) h2 (Ev.now _)))
      · rw [if_neg q1,if_neg q2] at h;simp at h
      · rw [if_neg q1,if_neg q2];simp
    | some e =>
      obtain ⟨rfl,n0,n1,hrep⟩:=hok
      obtain ⟨L,hL,rF⟩:=h2
      have e3:v=l3 (v3of v):=by
        match v,q3 with
        | [a,b,c],_=>rfl
      have sm:sm9 (v3of v):=hm
      obtain ⟨b,hb,ib⟩:=refAccepts_ev (by omega) n0 hrep sm
      have eb:b=decide (v3of v ∈ L):=by
        rw [Bool.eq_iff_iff,ib,decide_eq_true_iff,rF.2]
        exact ⟨fun h=>⟨h,box_iff.2 ⟨Int.le_refl _,Int.le_refl _,Int.le_refl _⟩⟩,fun h=>h.1⟩
      refine rest b 0 N true ?_ hP (fun _=>⟨rfl,?_⟩) (fun h=>?_)
      · unfold count_Accepts.f
        refine Ev.neg (by omega) ?_
        rw [← hout]
        refine Ev.neg q2 (Ev.pos q3 (Ev.bind (a:=some L) hL ?_))
        rw [eb]
        exact Ev.now _
      · rw [← e3] at hb;exact hb
      · rw [if_neg q1,if_neg q2,if_pos ⟨rfl,q3⟩] at h;exact absurd rfl h
  · have hc:=acc _ rfl q
    have key:(if (s.size:Int) > 30 then 3 else if outb=true then 1 else if ok=true∧v.length=3 then (0:Int) else 2)=(if (s.size:Int) > 30 then 3 else if outb=true then 1 else if v.length=3 then (0:Int) else 2):=by
      by_cases q1:(s.size:Int) > 30
      · rw [if_pos q1,if_pos q1]
      · rw [if_neg q1,if_neg q1]
        rw [if_neg q1] at q
        by_cases q2:outb=true
        · rw [if_pos q2,if_pos q2]
        · rw [if_neg q2,if_neg q2]
          rw [if_neg q2] at q
          by_cases q3:v.length=3
          · rw [if_pos q3] at q;exact absurd rfl q
          · rw [if_neg q3,if_neg (fun h=>q3 h.2)]
    refine rest false _ N ok hc hP (fun h=>?_) (fun h=>⟨rfl,key.symm⟩)
    rw [key] at h
    exact absurd h q
end Go.Proofs.Ytkonljiembcdlaa.Pure
