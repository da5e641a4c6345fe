import Derived.Test.YtkonljiembcdlaaPCx0
import Derived.Test.YtkonljiembcdlaaPCx2
import Derived.Test.YtkonljiembcdlaaMyTiny
namespace Go.Proofs.Ytkonljiembcdlaa.PC
open Go.Proofs.MyWords Go.RowKit Go.Proofs.YtkonljiembcdlaaW.PrintWords Go.Proofs.YtkonljiembcdlaaW.PrintLast Go.Proofs.YtkonljiembcdlaaW.PrintMore
attribute [local go_sem] max2_int min2_int max_two min_two max_three min_three max_four min_four   -- for this text's walks alone
set_option linter.unusedVariables false
set_option linter.unusedSimpArgs false
attribute [local go_sem] eqGuard_slices eqlnil23 neqnil23 eqlnil58 neqnil58
def count_plus.l0:Nat → List Int → List Int → List Int → Int → Int → Option (List Int)
  | 0,_,_,_,_,_=>none
  | k + 1,x0,x1,x5,x11,x12=>if x12 < x11 then (if 0 ≤ x12 then (if x12 < (x0.length:Int) then (if x12 < (x1.length:Int) then (if x12 < (x5.length:Int) then (count_plus.l0 k x0 x1 (x5.set (x12:Int).toNat (wrap64 ((rd x0 x12) + (rd x1 x12)))) x11 (wrap64 (x12 + 1))) else (none)) else (none)) else (none)) else (none)) else (some x5)
def count_plus.f (k:Nat) (l0:List Int) (l1:List Int):Option (List Int):=if 0 ≤ (l0.length:Int) then (if ((l0.length:Int):Int).toNat ≤ 35184372088832 then (count_plus.l0 k l0 l1 (List.replicate ((l0.length:Int):Int).toNat 0) (l0.length:Int) 0) else (none)) else (none)
theorem count_plus.mono_l:∀ k,(∀ y0 y1 y2 y3 y4,LeO (count_plus.l0 k y0 y1 y2 y3 y4) (count_plus.l0 (k + 1) y0 y1 y2 y3 y4))
  | 0=>fun _ _ _ _ _ r h=>by simp [count_plus.l0] at h
  | k + 1=>by
    have ih0:=count_plus.mono_l k
    · intro y0 y1 y2 y3 y4
      unfold count_plus.l0
      with_reducible repeat' first|exact ih0 _ _ _ _ _|exact LeO.refl _|exact LeO.none _|refine LeO.ite ?_ ?_|refine LeO.bind ?_ (fun _=>?_)
theorem count_plus.mono:∀ a0 a1 k,LeO (count_plus.f k a0 a1) (count_plus.f (k + 1) a0 a1):=by intro a0 a1 k;have ih0:=count_plus.mono_l k;unfold count_plus.f;with_reducible repeat' first|exact ih0 _ _ _ _ _|exact LeO.refl _|exact LeO.none _|refine LeO.ite ?_ ?_|refine LeO.bind ?_ (fun _=>?_)
def count_plus.T5:Bool × List (List Nat × List Nat):=(true,[([],[]),([],[]),([],[]),([],[]),([2,3],[2,3]),([4],[4]),([],[]),([],[]),([6,7],[6,7]),([8],[8]),([5,9],[5,9]),([0,1,0,1,2,3,4,5,6,7,8,9,10],[0,1]),([11,10,0,1,2,3,4,5,6,7,8,9,10],[10,11])])
def count_plus.B5:List Nat:=[0,0,0,0,12,28,0,0,192,448,1020,2047,4095]
theorem count_plus.tab5:rtab .any (opsOf Try.f93 5)=count_plus.T5:=by kernel_rfl
theorem count_plus.bits5:waitsOk count_plus.T5.2 count_plus.B5=true:=by kernel_rfl
set_option maxHeartbeats 8000000 in
set_option maxRecDepth 100000 in
theorem count_plus.calls (k:Nat) (A0:Option Addr) (c0:Nat) (D:List Int) (A1:Option Addr) (c1:Nat) (J:List Int) (r:List Int) (w:World) (c2:Kd.C (Kd.int .i64) w A0 D.length D) (c5:D.length ≤ c0) (c6:Kd.C (Kd.int .i64) w A1 J.length J) (d0:J.length ≤ c1) (h:count_plus.f k D J=some r) :
    Calls Try.prog 93 #[.slice A0 D.length c0,.slice A1 J.length c1] w fun e w'=>∃ d1:Value,e=.returned (d1)∧Kd.R (Kd.int .i64) 3 w' w.heap.size (fun _=>True) d1 r∧Below w.heap.size w w':=by
 have e4:=mk0 c2;have f3:=mk0 c5;clear c2 c5;have e5:=mk0 c6;have f4:=mk0 d0;clear c6 d0;have I:=mk0 (Below.refl w.heap.size w);have H:(if 0 ≤ (D.length:Int) then (if ((D.length:Int):Int).toNat ≤ 35184372088832 then (count_plus.l0 k D J (List.replicate ((D.length:Int):Int).toNat 0) (D.length:Int) 0) else (none)) else (none))=some r:=h;clear h;by_cases c3:0 ≤ (D.length:Int)
 ·
  rw [if_pos c3] at H;have c3b0:=eq_true c3;have c3b1:decide (0 ≤ (D.length:Int))=true:=decide_eq_true c3;clear c3;by_cases c4:((D.length:Int):Int).toNat ≤ 35184372088832
  ·
   rw [if_pos c4] at H;have c4b0:=eq_true c4;have c4b1:decide (((D.length:Int):Int).toNat ≤ 35184372088832)=true:=decide_eq_true c4;clear c4;obtain ⟨a5,O⟩:∃ y_:List Int,y_=(List.replicate ((D.length:Int):Int).toNat 0):=⟨_,rfl⟩;(replace H:(count_plus.l0 k D J a5 (D.length:Int) 0)=some r:=by first|(rw [O];with_reducible exact H)|(have T:=(Option.bind_some _ _).symm.trans H;rw [O];with_reducible exact T)|(have T:=(Option.bind_some _ _).symm.trans H;with_reducible exact T)|with_reducible exact H|(rw [O];exact H)|exact H);have a4:=mk0 O;clear O;have H':=mk0 H;clear H;go_enter Try.func93,Try.ntmps93;go_wp2_with (first|((with_reducible refine gate_dst (N:=9) rfl ?_);refine Kd.R_make (Kd.int .i64) _ 3 rfl (N:=9) rfl 23 _ _ rfl (D.length:Int) rfl rfl Try.underlying23 (.int .i64 0) 8 info3 rfl (by decide) (by omega) 0 (ok:=fun _=>True) (okp:=fun _=>True) rfl (fun _ hk=>hk) trivial (of_decide_eq_true (by assumption)) (Nat.le_trans (Nat.mul_le_mul_right _ (of_decide_eq_true (by assumption):(D.length:Int).toNat ≤ 35184372088832)) (by omega)) (Below.refl _ _) (Nat.le_refl _) ?_;intro d5 w5 Y hb hg_ b5;clear hg_ b5;(first|rw [← a4.1] at Y|(simp only [Int.reduceToNat] at Y;rw [← a4.1] at Y));have b6:=mk0 (Kd.R_lower Y (below_size I.1));replace I:=bst I hb;clear hb Y));go_loopg [12] k (fun kq e6 w'=>∃ (L:List Int) (B:Int),e6=.int .i64 B∧Aside0 (count_plus.l0 kq D J L (D.length:Int) B=some r)∧Aside0 (kq ≤ k)∧Aside0 (Kd.R (Kd.int .i64) 3 w' w.heap.size (fun _=>True) d5 L)∧Aside0 (Below w.heap.size w w'));case atStart=>exact ⟨(a5),(0),(by first|rfl|(simp;done)|(simp [*];done)),H',⟨Nat.le_refl _⟩,⟨by exact b6.1⟩,⟨by exact I.1⟩⟩
   case round =>
    (clear H';try clear c1);(try clear p2);(try clear c3);(try clear c3b0);(try clear c3b1);(try clear c4);(try clear c4b0);try clear c4b1
    obtain ⟨L,B,rfl,HA,d2,M,I⟩:=hrel;cases gk with
    | zero=>exact absurd HA.1 (by simp [count_plus.l0])
    | succ k1 =>have H:=HA.1;clear HA;simp only [count_plus.l0] at H;by_cases c7:B < (D.length:Int);(· rw [if_pos c7] at H;have c7b0:decide (B < (D.length:Int))=true:=decide_eq_true c7;clear c7;by_cases c8:0 ≤ B;(· rw [if_pos c8] at H;have c8b0:decide (0 ≤ B)=true:=decide_eq_true c8;clear c8;by_cases c9:B < (D.length:Int);(· rw [if_pos c9] at H;have c9b0:decide (B < (D.length:Int))=true:=decide_eq_true c9;clear c9;by_cases c10:B < (J.length:Int);(· rw [if_pos c10] at H;have c10b0:decide (B < (J.length:Int))=true:=decide_eq_true c10;clear c10;by_cases c11:B < (L.length:Int);(· rw [if_pos c11] at H;have c11b0:decide (B < (L.length:Int))=true:=decide_eq_true c11;clear c11;obtain ⟨a6,Q⟩:∃ y_:List Int,y_=(L.set (B:Int).toNat (wrap64 ((rd D B) + (rd J B)))):=⟨_,rfl⟩;(replace H:(count_plus.l0 k1 D J a6 (D.length:Int) (wrap64 (B + 1)))=some r:=by first|(rw [Q];with_reducible exact H)|(have T:=(Option.bind_some _ _).symm.trans H;rw [Q];with_reducible exact T)|(have T:=(Option.bind_some _ _).symm.trans H;with_reducible exact T)|with_reducible exact H|(rw [Q];exact H)|exact H);(have b7:=mk0 Q;clear Q;have H':=mk0 H;clear H;try go_wp2);replace M:=rdr M;replace I:=hdr I;have Z:0 ≤ (B:Int):=of_decide_eq_true (by assumption);have a0:B < (D.length:Int):=of_decide_eq_true (by assumption);obtain ⟨b8,d6,F⟩:=Kd.at_int e4.1 B Z a0;have U:=F;cases d6;replace F:=bd_ I F;replace Z:=eq_true Z;replace a0:=eq_true a0;have a1:0 ≤ (B:Int):=of_decide_eq_true (by assumption);have a2:B < (J.length:Int):=of_decide_eq_true (by assumption);obtain ⟨b9,d7,G⟩:=Kd.at_int e5.1 B a1 a2;have V:=G;cases d7;replace G:=bd_ I G;replace a1:=eq_true a1;replace a2:=eq_true a2;have a7:0 ≤ (B:Int):=of_decide_eq_true (by assumption);have a8:(B:Int) < ((L.length:Int):Int):=of_decide_eq_true (by assumption);obtain ⟨e8,e9,a9,b0,d8,f0,b1⟩:=Kd.R_form M.1 (by omega);(first|cases a9|(injection a9 with ea_ en_ ec_;(first|subst ea_|(injection ea_ with ea_;subst ea_));subst ec_;clear en_));have d9:=mk0 b0;have e0:=mk0 b1;clear b0 d8 b1;obtain ⟨b2,b3⟩:=Kd.R_celln 0 M.1 (B:Int) a7 a8;replace a7:=eq_true a7;replace a8:=eq_true a8;have a3:=Kd.R_putn M.1 (B:Int) (wrap64 ((rd D B) + (rd J B)));rw [← b7.1] at a3;have b4:=mk0 a3;clear a3;refine start_ (n:=13) (S:=fun w'=>w'.cell? (b8.add (B).toNat)=some (.int .i64 (rd D B))∧w'.cell? (b9.add (B).toNat)=some (.int .i64 (rd J B))) (ds:=[12]) #[n_,n_,n_,n_,n_,n_,n_,n_,n_,n_,n_,n_,n_] (by kernel_rfl) rfl rfl ⟨(bd_ I U),(bd_ I V)⟩ (fun X=>?_);refine with_tabW count_plus.tab5 count_plus.bits5 (fun E d3=>?_);generalize wr.drew=f5 at M I e0 b4 b3 b2 F G X ⊢;refine pure_ (i:=0) (N:=some 15) (v:=?_) (a':=?_) #[y_,n_,n_,n_,n_,n_,n_,n_,n_,n_,n_,n_,n_] rfl rfl (any_of E.1 (by kernel_rfl)) (fun _ _ _ h=>h) (Or.inl ⟨by rfl,?_⟩) ?_ ?_;rotate_left;(· intro w';go_simp;with_reducible rfl);rotate_left;(· simp only [Act.put,s0_,s1_,s2_,i64_w,i32_w];rfl);refine pure_ (i:=1) (N:=some 16) (v:=?_) (a':=?_) #[y_,y_,n_,n_,n_,n_,n_,n_,n_,n_,n_,n_,n_] rfl rfl (any_of E.1 (by kernel_rfl)) (fun _ _ _ h=>h) (Or.inl ⟨by rfl,?_⟩) ?_ ?_;rotate_left;(· intro w';go_simp;with_reducible rfl);rotate_left;(· simp only [Act.put,s0_,s1_,s2_,i64_w,i32_w];rfl);refine pure_ (i:=2) (N:=some 17) (v:=?_) (a':=?_) #[y_,y_,y_,n_,n_,n_,n_,n_,n_,n_,n_,n_,n_] rfl rfl (any_of E.1 (by kernel_rfl)) (fun _ _ _ h=>h) (Or.inl ⟨by rfl,?_⟩) ?_ ?_;rotate_left;(· intro w';go_simp;with_reducible rfl);rotate_left;(· simp only [Act.put,s0_,s1_,s2_,i64_w,i32_w];rfl);refine pure_ (i:=3) (N:=some 18) (v:=?_) (a':=?_) #[y_,y_,y_,y_,n_,n_,n_,n_,n_,n_,n_,n_,n_] rfl rfl (any_of E.1 (by kernel_rfl)) (fun _ _ _ h=>h) (Or.inl ⟨by rfl,?_⟩) ?_ ?_;rotate_left;(· intro w';go_simp;with_reducible rfl);rotate_left;(· simp only [Act.put,s0_,s1_,s2_,i64_w,i32_w];rfl);refine pure_ (i:=4) (N:=some 19) (v:=?_) (a':=?_) #[y_,y_,y_,y_,y_,n_,n_,n_,n_,n_,n_,n_,n_] rfl rfl (any_of E.1 (by kernel_rfl)) (fun _ _ _ h=>h) (Or.inl ⟨by rfl,?_⟩) ?_ ?_;rotate_left;(· intro w';go_simp;with_reducible rfl);rotate_left;(· simp only [Act.put,s0_,s1_,s2_,i64_w,i32_w];rfl);refine pure_ (i:=6) (N:=some 21) (v:=?_) (a':=?_) #[y_,y_,y_,y_,y_,n_,y_,n_,n_,n_,n_,n_,n_] rfl rfl (any_of E.1 (by kernel_rfl)) (fun _ _ _ h=>h) (Or.inl ⟨by rfl,?_⟩) ?_ ?_;rotate_left;(· intro w';go_simp;with_reducible rfl);rotate_left;(· simp only [Act.put,s0_,s1_,s2_,i64_w,i32_w];rfl);refine pure_ (i:=7) (N:=some 22) (v:=?_) (a':=?_) #[y_,y_,y_,y_,y_,n_,y_,y_,n_,n_,n_,n_,n_] rfl rfl (any_of E.1 (by kernel_rfl)) (fun _ _ _ h=>h) (Or.inl ⟨by rfl,?_⟩) ?_ ?_;rotate_left;(· intro w';go_simp;with_reducible rfl);rotate_left;(· simp only [Act.put,s0_,s1_,s2_,i64_w,i32_w];rfl);refine pure_ (i:=8) (N:=some 23) (v:=?_) (a':=?_) #[y_,y_,y_,y_,y_,n_,y_,y_,y_,n_,n_,n_,n_] rfl rfl (any_of E.1 (by kernel_rfl)) (fun _ _ _ h=>h) (Or.inl ⟨by rfl,?_⟩) ?_ ?_;rotate_left;(· intro w';go_simp;with_reducible rfl);rotate_left;(· simp only [Act.put,s0_,s1_,s2_,i64_w,i32_w];rfl);refine take_ (i:=5) (N:=some 20) (v:=?_) (a':=?_) #[y_,y_,y_,y_,y_,y_,y_,y_,y_,n_,n_,n_,n_] rfl rfl (take_ofW E.1 d3.1 (by kernel_rfl)) (fun _ _ _ h=>h) (Or.inl ⟨by rfl,?_⟩) X ?_ ?_;rotate_left;(· rintro w' ⟨s0,s1⟩;go_simp;with_reducible rfl);rotate_left;(· simp only [Act.put,s0_,s1_,s2_,i64_w,i32_w];rfl);refine take_ (i:=9) (N:=some 24) (v:=?_) (a':=?_) #[y_,y_,y_,y_,y_,y_,y_,y_,y_,y_,n_,n_,n_] rfl rfl (take_ofW E.1 d3.1 (by kernel_rfl)) (fun _ _ _ h=>h) (Or.inl ⟨by rfl,?_⟩) X ?_ ?_;rotate_left;(· rintro w' ⟨s0,s1⟩;go_simp;with_reducible rfl);rotate_left;(· simp only [Act.put,s0_,s1_,s2_,i64_w,i32_w];rfl);refine pure_ (i:=10) (N:=some 25) (v:=?_) (a':=?_) #[y_,y_,y_,y_,y_,y_,y_,y_,y_,y_,y_,n_,n_] rfl rfl (any_of E.1 (by kernel_rfl)) (fun _ _ _ h=>h) (Or.inl ⟨by rfl,?_⟩) ?_ ?_;rotate_left;(· intro w';go_simp;with_reducible rfl);rotate_left;(· simp only [Act.put,s0_,s1_,s2_,i64_w,i32_w];rfl);refine pure_ (i:=11) (N:=some 26) (v:=?_) (a':=?_) #[y_,y_,y_,y_,y_,y_,y_,y_,y_,y_,y_,y_,n_] rfl rfl (any_of E.1 (by kernel_rfl)) (fun _ _ _ h=>h) (Or.inl ⟨by rfl,?_⟩) ?_ ?_;rotate_left;(· intro w';go_simp;with_reducible rfl);rotate_left;(· simp only [Act.put,s0_,s1_,s2_,i64_w,i32_w];rfl);refine last_ (i:=12) (N:=none) #[y_,y_,y_,y_,y_,y_,y_,y_,y_,y_,y_,y_,y_] rfl rfl (one_of E.1 (by kernel_rfl)) (by decide) (fun K hK=>?_);refine skip_ (w1:=?_) (by rfl) rfl ?_ ?_;rotate_left;(· go_simp;rfl);(refine hK.out _ _ ?_;clear hK K;refine done_ (done_of E.1 (by kernel_rfl)) ?_;try go_wp2);go_roundg k1;(case measure=>have:=d2.1;omega);case rel=>exact ⟨(a6),(wrap64 (B + 1)),(by first|rfl|(simp;done)|(simp [*];done)),H',⟨by have:=d2.1;omega⟩,⟨by exact b4.1⟩,⟨by repeat (first|(with_reducible first|exact I.1|apply below_alloc|apply pw_below_drewN|apply below_drew1|refine below_set ?_ d9.1)|exact I.1)⟩⟩);· rw [if_neg c11] at H;exact absurd H (by simp));· rw [if_neg c10] at H;exact absurd H (by simp));· rw [if_neg c9] at H;exact absurd H (by simp));· rw [if_neg c8] at H;exact absurd H (by simp));· rw [if_neg c7] at H;have c7b0:decide (B < (D.length:Int))=false:=decide_eq_false c7;clear c7;obtain rfl:=Option.some.inj H;go_wp2;go_ret;exact ⟨_,by first|rfl|(simp [errW_none,errW_some] <;> rfl)|(simp [*,errW_none,errW_some] <;> rfl),by exact M.1,by exact I.1⟩
  · rw [if_neg c4] at H;exact absurd H (by simp)
 · rw [if_neg c3] at H;exact absurd H (by simp)
def slices_Clone_int_int_84.f (k:Nat) (l:List Int):Option (List Int):=if l.length ≤ 5000000 then some l else none
theorem slices_Clone_int_int_84.mono:∀ a0 k,LeO (slices_Clone_int_int_84.f k a0) (slices_Clone_int_int_84.f (k + 1) a0):=fun _ _=>LeO.refl _
attribute [local go_sem] eqGuard_slices eqlnil23 in
set_option maxHeartbeats 1000000 in
set_option maxRecDepth 100000 in
theorem slices_Clone_int_int_84.calls (k:Nat) (J:Option Addr) (O:Nat) (B:List Int) (r:List Int) (w:World) (D:Kd.C (Kd.int .i64) w J B.length B) (E:B.length ≤ O) (h:slices_Clone_int_int_84.f k B=some r) :
    Calls Try.prog 84 #[.slice J B.length O] w fun e w'=>∃ F:Value,e=.returned F∧Kd.R (Kd.int .i64) 3 w' w.heap.size (fun _=>True) F r∧Below w.heap.size w w':=by
  unfold slices_Clone_int_int_84.f at h;split at h;(case isFalse=>cases h);rename_i hl;obtain rfl:=Option.some.inj h;clear h
  cases J with
  | none =>
    have V:B=[]:=by
      (rcases Nat.eq_zero_or_pos B.length with h|h);· exact List.eq_nil_of_length_eq_zero h
      · obtain ⟨ad,e,_⟩:=D.2.2 h
        cases e
    subst V;clear D E hl;go_enter Try.func84,Try.ntmps84;go_wp2;go_ret;exact ⟨_,rfl,Kd.R_nil _ _ _ _ _,Below.refl _ _⟩
  | some a0 =>
    have HR:=mk0 D;have HL:=mk0 hl;clear D E hl;go_enter Try.func84,Try.ntmps84
    go_wp2_with (first
      | ((with_reducible refine gate_dst (N:=5) rfl ?_);refine Kd.R_lit (Kd.int .i64) (w0:=w) w.heap.size 3 ?hg (N:=5) ?hd (xs:=([]:List Int)) (inner:=[]) (ok:=fun _=>True) (okp:=fun _=>True) ?hr ?hp (fun _ hk=>hk) trivial (Below.refl _ _) (Nat.le_refl _) (by simp) ?_;(case hd=>rfl);(case hg=>rfl);(case hr=>first|(go_simp;done)|(go_simp;rfl));(case hp=>exact Reps.none _ _);intro X Y ho hb hg_ hn;clear hg_ hn;have HO:=mk0 ho;have L:=mk0 hb;clear ho hb)
      | ((with_reducible refine gate_builtin (b:=.append) (xs:=#[.tmp 5,.tmp 6]) rfl ?_);at_builtin;refine Kd.R_append_row (Value.int .i64) 0 (h1:=fun _=>rfl) (w0:=w) w.heap.size rfl (.tmp 5) (.tmp 6) 23 3 (.int .i64 0) 8 rfl Try.underlying23 info3 rfl (by decide) X [] B _ _ _ (fun _=>True) rfl rfl (fun _ _=>trivial) HO.1 (Kd.C_below HR.1 L.1) L.1 (below_size L.1) (by have:=HL.1;simp only [List.length_nil];omega) ?_;intro Z w2 G I Q M;clear Q M;have T:=mk0 G;have U:=mk0 I;clear G I))
    go_ret;exact ⟨_,rfl,T.1,U.1⟩
def count_copies.l0:Nat → List (List Int) → List (List Int) → Int → Int → Option ((List (List Int)))
  | 0,_,_,_,_=>none
  | k + 1,x3,x6,x7,x8=>if x8 < x7 then (if 0 ≤ x8 then (if x8 < (x6.length:Int) then ((slices_Clone_int_int_84.f k (rd_L1 x6 x8)).bind fun t151=>(if x3.length < 5864062014805 then (count_copies.l0 k (x3 ++ [t151]) x6 x7 (wrap64 (x8 + 1))) else (none))) else (none)) else (none)) else (some x3)
def count_copies.f (k:Nat) (l0:List (List Int)):Option ((List (List Int))):=count_copies.l0 k ([]:List (List Int)) l0 (l0.length:Int) 0
theorem count_copies.mono_l:∀ k,(∀ y0 y1 y2 y3,LeO (count_copies.l0 k y0 y1 y2 y3) (count_copies.l0 (k + 1) y0 y1 y2 y3))
  | 0=>fun _ _ _ _ r h=>by simp [count_copies.l0] at h
  | k + 1=>by
    have ih0:=count_copies.mono_l k
    · intro y0 y1 y2 y3
      unfold count_copies.l0
      with_reducible repeat' first|exact ih0 _ _ _ _|exact slices_Clone_int_int_84.mono _ _|exact LeO.refl _|exact LeO.none _|refine LeO.ite ?_ ?_|refine LeO.bind ?_ (fun _=>?_)
theorem count_copies.mono:∀ a0 k,LeO (count_copies.f k a0) (count_copies.f (k + 1) a0):=by intro a0 k;have ih0:=count_copies.mono_l k;unfold count_copies.f;with_reducible repeat' first|exact ih0 _ _ _ _|exact slices_Clone_int_int_84.mono _ _|exact LeO.refl _|exact LeO.none _|refine LeO.ite ?_ ?_|refine LeO.bind ?_ (fun _=>?_)
set_option maxHeartbeats 8000000 in
set_option maxRecDepth 100000 in
theorem count_copies.calls (k:Nat) (A0:Option Addr) (c0:Nat) (D:List (List Int)) (r:List (List Int)) (w:World) (a3:Kd.C (Kd.slice 3 (Kd.int .i64)) w A0 D.length D) (a4:D.length ≤ c0) (h:count_copies.f k D=some r) :
    Calls Try.prog 94 #[.slice A0 D.length c0] w fun e w'=>∃ a5:Value,e=.returned (a5)∧Kd.S (Kd.slice 3 (Kd.int .i64)) 23 w' w.heap.size (fun _=>True) a5 r∧Below w.heap.size w w':=by
 have b4:=mk0 a3;have c8:=mk0 a4;clear a3 a4;have E:=mk0 (Below.refl w.heap.size w);have H:(count_copies.l0 k ([]:List (List Int)) D (D.length:Int) 0)=some r:=h;clear h;have H':=mk0 H;clear H;go_enter Try.func94,Try.ntmps94;go_wp2;go_loopg [3,8] k (fun kq v3 v8 w'=>∃ (I:List (List Int)) (B:Int),v8=.int .i64 B∧Aside0 (count_copies.l0 kq I D (D.length:Int) B=some r)∧Aside0 (kq ≤ k)∧Aside0 (Kd.S (Kd.slice 3 (Kd.int .i64)) 23 w' w.heap.size (fun _=>True) v3 I)∧Aside0 (Below w.heap.size w w'));case atStart=>exact ⟨(([]:List (List Int))),(0),(by first|rfl|(simp;done)|(simp [*];done)),H',⟨Nat.le_refl _⟩,⟨by first|exact Kd.S_nil _ _ _ _ _|exact Kd.N_nil _ _ _ _ _|exact Kd.V_nil _ _ _ _ _|exact Kd.Q_nil _ _ _ _ _|exact Kd.R_nil _ _ _ _ _⟩,⟨by exact E.1⟩⟩
 case round =>
  clear H';obtain ⟨I,B,rfl,HA,a6,F,E⟩:=hrel;cases gk with
  | zero=>exact absurd HA.1 (by simp [count_copies.l0])
  | succ k1 =>have H:=HA.1;clear HA;simp only [count_copies.l0] at H;by_cases c2:B < (D.length:Int);(· rw [if_pos c2] at H;have c2b0:decide (B < (D.length:Int))=true:=decide_eq_true c2;clear c2;by_cases c3:0 ≤ B;(· rw [if_pos c3] at H;have c3b0:decide (0 ≤ B)=true:=decide_eq_true c3;clear c3;by_cases c4:B < (D.length:Int);(· rw [if_pos c4] at H;have c4b0:decide (B < (D.length:Int))=true:=decide_eq_true c4;clear c4;replace H:=Option.bind_eq_some_iff.mp H;obtain ⟨M,a7,H⟩:=H;(try dsimp only at H);have A5:=mk0 a7;clear a7;by_cases c6:I.length < 5864062014805;(· rw [if_pos c6] at H;have b0:=mk0 c6;clear c6;obtain ⟨V,G⟩:∃ y_:List (List Int),y_=(I ++ [M]):=⟨_,rfl⟩;(replace H:(count_copies.l0 k1 V D (D.length:Int) (wrap64 (B + 1)))=some r:=by first|(rw [G];with_reducible exact H)|(have X:=(Option.bind_some _ _).symm.trans H;rw [G];with_reducible exact X)|(have X:=(Option.bind_some _ _).symm.trans H;with_reducible exact X)|with_reducible exact H|(rw [G];exact H)|exact H);have a1:=mk0 G;clear G;have H':=mk0 H;clear H;have Q:0 ≤ (B:Int):=of_decide_eq_true (by assumption);have R:B < (D.length:Int):=of_decide_eq_true (by assumption);obtain ⟨b7,Y,Z,b1,J,N,O⟩:=at_L1 b4.1 B Q R;cases b1;replace J:=bd_ E J;have T:=mk0 O;have U:=mk0 N;clear O N;replace Q:=eq_true Q;replace R:=eq_true R;go_wp2_with (first|((with_reducible refine gate_callee (f:=84) rfl ?_);refine goesL_ (some 14) rfl rfl Try.func84 (by kernel_rfl) rfl #[.slice Y (rd_L1 D B).length Z] rfl (by (try simp only [m0_,m1_,m2_]);first|done|rfl|(simp only [l0_,l1_];rfl)) ?_;(with_reducible refine (slices_Clone_int_int_84.calls k1 _ _ (rd_L1 D B) M _ ?side1 ?side2 A5.1).mono ?_);(case side1=>repeat (first|exact (Kd.C_below T.1 E.1)|(with_reducible refine Kd.C_alloc ?_ _)|(with_reducible refine Kd.C_drewN ?_ _)|(with_reducible refine Kd.C_drew ?_)));(case side2=>exact U.1);rintro e w7 ⟨c5,rfl,a0,hb⟩;refine ⟨_,rfl,?_⟩;have L:=mk0 (Kd.R_lower a0 (below_size E.1));replace F:=mk0 (Kd.S_elder' F.1 (Kd.R_base a0) hb);replace E:=bst E hb;(try clear hb);(try clear hk);(try clear a0);obtain ⟨a8,a9,b5⟩:=Kd.R_slice L.1;subst b5)|((with_reducible refine gate_builtin (b:=.append) (xs:=#[.tmp 12,.tmp 15]) rfl ?_);at_builtin;refine Kd.S_append (Kd.slice 3 (Kd.int .i64)) (w0:=w) w.heap.size rfl (.tmp 12) (.tmp 15) 58 23 (.slice none 0 0) 24 rfl Try.underlying58 info23 rfl (by decide) (by omega) u3 I M [.slice a8 M.length a9] (fun _=>True) (fun k_=>some k_=(.slice a8 M.length a9:Value).ownBlock) rfl rfl ?aP (fun k_ hk_=>((Kd.R_mono (ok':=fun k_=>((fun _=>True)) k_∧some k_ ≠ (u3:Value).ownBlock) (Kd.R_apart' (L.1) (Kd.S_typed F.1) (by decide)) (fun k_ hk=>⟨trivial,hk.2⟩))).1 k_ hk_.symm) ?aF ?aO ?aB ?aS ?aL ?_;(case aP=>exact Kd.M_row (Kd.R_mono (Kd.R_tight rfl (Kd.R_mono (ok':=fun k_=>((fun _=>True)) k_∧some k_ ≠ (u3:Value).ownBlock) (Kd.R_apart' (L.1) (Kd.S_typed F.1) (by decide)) (fun k_ hk=>⟨trivial,hk.2⟩))) (fun _ h_=>h_)));(case aB=>exact (by exact E.1));(case aF=>exact (fun _ _=>trivial));(case aO=>exact (by exact Kd.S_mono F.1 (fun k_ hk=>⟨trivial,fun e_=>hk.2 e_⟩)));(case aS=>exact (below_size (by exact E.1)));(case aL=>have:=b0.1;omega);intro c7 w8 ho hb hg hat;rw [← a1.1] at ho;have a2:=mk0 (ho);replace E:=mk0 (hb);clear F;clear L;clear ho hb hg hat));go_roundg k1;(case measure=>have:=a6.1;omega);case rel=>exact ⟨(V),(wrap64 (B + 1)),(by first|rfl|(simp;done)|(simp [*];done)),H',⟨by have:=a6.1;omega⟩,⟨by exact a2.1⟩,⟨by exact E.1⟩⟩);· rw [if_neg c6] at H;exact absurd H (by simp));· rw [if_neg c4] at H;exact absurd H (by simp));· rw [if_neg c3] at H;exact absurd H (by simp));· rw [if_neg c2] at H;have c2b0:decide (B < (D.length:Int))=false:=decide_eq_false c2;clear c2;obtain rfl:=Option.some.inj H;go_wp2;go_ret;exact ⟨_,by first|rfl|(simp [errW_none,errW_some] <;> rfl)|(simp [*,errW_none,errW_some] <;> rfl),by exact F.1,by exact E.1⟩
theorem grow_form {n:Nat} {w w1:World} {v:Value} (h:Kd.N (Kd.slice 3 (Kd.int .i64)) 23 w1 w.heap.size (fun k=>w.heap.size ≤ k) v (([]:List (List Int)) ++ List.replicate (n:Int).toNat ([]:List Int))) (hn:0 < n) :
    ∃ g cap,v=.slice (some ⟨g,0,none⟩) n cap∧Kd.N (Kd.slice 3 (Kd.int .i64)) 23 w1 w.heap.size (fun k=>w.heap.size ≤ k) (.slice (some ⟨g,0,none⟩) 0 cap) ([]:List (List Int))∧n ≤ cap:=by
  (have hl:(([]:List (List Int)) ++ List.replicate (n:Int).toNat ([]:List Int)).length=n:=by simp);obtain ⟨g,cap,rfl,_⟩:=Kd.N_form h (by omega);refine ⟨g,cap,by rw [hl],?_,?_⟩;(· exact Kd.N_take (m:=0) h (Nat.zero_le _));· have:=(Kd.N_reads' h).2.1;omega
set_option maxHeartbeats 1000000 in
set_option maxRecDepth 100000 in
theorem Grow_rows.calls (n:Nat) (hn:n ≤ 1000000) (w:World) :
    Calls Try.prog 109 #[.slice none 0 0,.int .i64 (n:Int)] w fun e w'=>∃ v,e=.returned v∧Kd.N (Kd.slice 3 (Kd.int .i64)) 23 w' w.heap.size (fun k=>w.heap.size ≤ k) v ([]:List (List Int))∧Below w.heap.size w w':=by
  have I:decide ((n:Int) < 0)=false:=decide_eq_false (by omega);(have C:wrap64 ((n:Int) - 0)=(n:Int):=by unfold wrap64;omega);(have B:wrap64 (n:Int)=(n:Int):=by unfold wrap64;omega);by_cases h0:n=0
  · subst h0
    go_enter Try.func109,Try.ntmps109
    go_wp2
    go_ret
    exact ⟨_,rfl,Kd.N_nil _ _ _ _ _,Below.refl _ _⟩
  · have J:decide (0 < (n:Int))=true:=decide_eq_true (by omega)
    have E:decide (0 < n)=true:=decide_eq_true (by omega)
    have HN:=mk0 hn
    clear hn h0
    go_enter Try.func109,Try.ntmps109
    go_wp2_with (first
      | ((with_reducible refine gate_builtin (b:=.append) (xs:=#[.tmp 20,.tmp 21]) rfl ?_);at_builtin;refine Kd.N_append_zeros (Kd.slice 3 (Kd.int .i64)) (w0:=w) w.heap.size rfl (.tmp 20) (.tmp 21) 58 3 23 (.slice none 0 0) 24 rfl Try.underlying58 Try.underlying3 info23 rfl (by decide) (by omega) (.slice none 0 0) ([]:List (List Int)) ([]:List Int) _ (fun k=>w.heap.size ≤ k) rfl rfl (Kd.FK_slice_mk (l:=([]:List Int)) (Nat.le_refl _) (Kd.F_nil _ _ _)) (fun _ hk=>hk) (Kd.N_nil _ _ _ _ _) (by rw [B];omega) (Below.refl _ _) (Nat.le_refl _) (by rw [B];have:=HN.1;simp;omega) ?_;intro M O hN hb hg hat;clear hg hat;rw [B] at hN;obtain ⟨g,cap,hform,C⟩:=grow_form hN (by have:=of_decide_eq_true E;omega);subst hform;obtain ⟨D,hcap⟩:=C;have F:=mk0 D;have G:=mk0 hb;clear hN hb D;obtain ⟨L,hii,hiz⟩:=Option.map_eq_some_iff.1 info23;simp only [Prod.mk.injEq] at hiz;have hcut:=cut_to (P:=Try.prog) 58 23 .i64 Try.underlying58 hii (some ⟨g,0,none⟩) n cap (0:Int) (by omega) (by omega) hcap;simp only [Int.toNat_zero] at hcut;clear hii hiz))
    go_ret
    exact ⟨_,rfl,F.1,G.1⟩
theorem at_LL2 {w:World} {A:Option Addr} {n:Nat} {xs:List (List (List Int))} (h:Kd.C (Kd.slice 23 (Kd.slice 3 (Kd.int .i64))) w A n xs) (i:Nat) (hi:i < n) :
    ∃ ad A0 c0,A=some ad∧w.cell? (ad.add i)=some (.slice A0 (xs.getD i []).length c0)∧(xs.getD i []).length ≤ c0∧Kd.C (Kd.slice 3 (Kd.int .i64)) w A0 (xs.getD i []).length (xs.getD i []):=by
  obtain ⟨ad,c,hA,_,hK,hc⟩:=Kd.C_get h [] (i:Int) (by omega) (by omega);simp only [Int.toNat_natCast] at hK hc;obtain ⟨A0,c0,rfl,hl,hC⟩:=hK;have hs:(Kd.slice 23 (Kd.slice 3 (Kd.int .i64))).sz=1:=rfl;have:=hc 0 _ rfl;rw [hs,Nat.mul_one,Nat.add_zero] at this;exact ⟨ad,A0,c0,hA,this,hl,hC⟩
theorem flat_len (l:List (List (List Int))) (i:Nat) (hi:i < l.length):((l.take (i + 1)).flatten)=(l.take i).flatten ++ l.getD i []:=by rw [List.take_add_one,List.flatten_append,List.getD_eq_getElem?_getD,List.getElem?_eq_getElem hi];simp
theorem flat_le (l:List (List (List Int))) (i:Nat):(l.take i).flatten.length ≤ l.flatten.length:=by have h:=congrArg (fun z=>z.flatten.length) (List.take_append_drop i l);simp only [List.flatten_append,List.length_append] at h;omega
set_option maxHeartbeats 2000000 in
set_option maxRecDepth 100000 in
theorem Concat_rows.calls (Z:Option Addr) (c0:Nat) (B:List (List (List Int))) (w:World) (Q:Kd.C (Kd.slice 23 (Kd.slice 3 (Kd.int .i64))) w Z B.length B) (a1:B.length ≤ c0) (hn:B.length ≤ 1000000) (hl:B.flatten.length ≤ 1000000) :
    Calls Try.prog 95 #[.slice Z B.length c0] w fun e w'=>∃ v,e=.returned v∧Kd.N (Kd.slice 3 (Kd.int .i64)) 23 w' w.heap.size (fun _=>True) v B.flatten∧Below w.heap.size w w':=by
  have R:=mk0 Q;have HN:=mk0 hn;have HL:=mk0 hl;clear Q a1 hn hl;go_enter Try.func95,Try.ntmps95;go_wp2;go_loopw [3,11] (fun v3 I w'=>∃ i:Nat,v3=.int .i64 ((B.take i).flatten.length:Int)∧I=.int .i64 (i:Int)∧Aside0 (i ≤ B.length)∧Aside0 (Below w.heap.size w w')) (fun _ I _=>B.length - (intOf I).toNat);case atStart=>exact ⟨0,rfl,rfl,⟨Nat.zero_le _⟩,⟨Below.refl _ _⟩⟩
  case round =>
    obtain ⟨i,rfl,rfl,HI,D⟩:=hrel;by_cases hlt:i < B.length
    · obtain ⟨ad,A1,c1,rfl,hx,F,E⟩:=at_LL2 R.1 i hlt
      replace hx:=bd_ D hx
      obtain ⟨x,hxx⟩:∃ x,x=B.getD i []:=⟨_,rfl⟩
      rw [← hxx] at hx F E
      have hf:=flat_len B i hlt
      rw [← hxx] at hf
      have hle:=flat_le B (i + 1)
      have J:wrap64 (((B.take i).flatten.length:Int) + (x.length:Int))=((B.take (i + 1)).flatten.length:Int):=by rw [hf,List.length_append];rw [hf,List.length_append] at hle;have:=HL.1;unfold wrap64;omega
      have hw:wrap64 ((i:Int) + 1)=((i + 1:Nat):Int):=by have:=HN.1;unfold wrap64;omega
      obtain ⟨s,hs⟩:∃ s:Nat,s=(B.take (i + 1)).flatten.length:=⟨_,rfl⟩
      rw [← hs] at J
      obtain ⟨s0,L⟩:∃ s:Nat,s=(B.take i).flatten.length:=⟨_,rfl⟩
      rw [← L] at J
      rw [← L]
      have hd:decide ((i:Int) < (B.length:Int))=true:=decide_eq_true (by omega)
      have G:decide (i < B.length)=true:=decide_eq_true hlt
      have b2:decide ((s:Int) < 0)=false:=decide_eq_false (by omega)
      have q0:((0:Int) ≤ (i:Int))=True:=eq_true (by omega)
      have q1:((i:Int) < (B.length:Int))=True:=eq_true (by omega)
      have HW:=mk0 hw
      have HS:=mk0 hs
      have HLT:=mk0 hlt
      clear hw hf hle hs L hlt F E hxx
      go_wp2
      go_roundw
      case rel=>exact ⟨i + 1,by rw [← HS.1,J],congrArg _ HW.1,⟨HLT.1⟩,D⟩
      case measure=>rw [HW.1];simp only [intOf];have:=HLT.1;omega
    · have hd:decide ((i:Int) < (B.length:Int))=false:=decide_eq_false (by omega)
      have G:decide (i < B.length)=false:=decide_eq_false hlt
      have hi:i=B.length:=by have:=HI.1;omega
      subst hi
      obtain ⟨S,hS⟩:∃ S,S=(B.take B.length).flatten.length:=⟨_,rfl⟩
      rw [← hS]
      rw [List.take_length] at hS
      have hSl:S ≤ 1000000:=by rw [hS];exact HL.1
      clear hS hlt
      go_wp2_with (go_at_call 109;(with_reducible refine (Grow_rows.calls S hSl _).mono ?_);rintro e w1 ⟨v1,rfl,T,U⟩;have HG:=mk0 (Kd.N_mono (Kd.N_lower T D.1.size) (fun _ _=>trivial:∀ k,_ → (fun _:Nat=>True) k));have V:=mk0 (below_step D.1 U);clear T U)
      go_loopw [6,27] (fun v6 M w'=>∃ i:Nat,M=.int .i64 (i:Int)∧Aside0 (i ≤ B.length)∧Aside0 (Kd.N (Kd.slice 3 (Kd.int .i64)) 23 w' w.heap.size (fun _=>True) v6 (B.take i).flatten)∧Aside0 (Below w.heap.size w w')) (fun _ M _=>B.length - (intOf M).toNat)
      case atStart=>exact ⟨0,rfl,⟨Nat.zero_le _⟩,by simpa using HG,V⟩
      case round =>
        clear D HG V HI hd G;obtain ⟨i,rfl,HI,HO,D⟩:=hrel;by_cases hlt:i < B.length
        · obtain ⟨ad,A1,c1,rfl,hx,F,E⟩:=at_LL2 R.1 i hlt
          replace hx:=bd_ D hx
          have HF:=mk0 (Kd.C_F (Kd.heap_slice 3 (Kd.heap_int .i64)) E)
          have HFL:=mk0 (flat_len B i hlt)
          have HLE:=mk0 (flat_le B (i + 1))
          obtain ⟨x,hxx⟩:∃ x,x=B.getD i []:=⟨_,rfl⟩
          rw [← hxx] at hx HF HFL
          have hw:wrap64 ((i:Int) + 1)=((i + 1:Nat):Int):=by have:=HN.1;unfold wrap64;omega
          have hd:decide ((i:Int) < (B.length:Int))=true:=decide_eq_true (by omega)
          have G:decide (i < B.length)=true:=decide_eq_true hlt
          have q0:((0:Int) ≤ (i:Int))=True:=eq_true (by omega)
          have q1:((i:Int) < (B.length:Int))=True:=eq_true (by omega)
          have HW:=mk0 hw
          have HLT:=mk0 hlt
          clear hw hlt F E hxx
          obtain ⟨v6,b3⟩:∃ v,v=u6:=⟨_,rfl⟩
          go_wp2_with ((with_reducible refine gate_builtin (b:=.append) (xs:=#[.tmp 31,.tmp 32]) rfl ?_);at_builtin;refine Kd.N_append_rows (Kd.slice 3 (Kd.int .i64)) (w0:=w) w.heap.size rfl (.tmp 31) (.tmp 32) 58 23 (.slice none 0 0) 24 rfl Try.underlying58 info23 rfl (by decide) (by omega) _ (B.take i).flatten x _ _ _ (fun _=>True) (fun k=>k < w.heap.size) rfl rfl ?aO ?aR ?aK (fun _ _=>trivial) ?aB ?aS ?aL ?_;(case aO=>exact HO.1);(case aR=>exact Kd.F_below HF.1 D.1);(case aB=>exact D.1);(case aS=>exact below_size D.1);(case aK=>exact fun k hk=>⟨trivial,fun h=>by have:=Kd.N_base HO.1 k h.symm;omega⟩);(case aL=>have h1:=HLE.1;have h2:=HL.1;rw [HFL.1,List.length_append] at h1;omega);intro v2 w2 O X a3 Y;clear a3 Y;rw [← HFL.1] at O;have a4:=mk0 O;have a5:=mk0 X;clear O X)
          go_roundw
          case rel=>exact ⟨i + 1,congrArg _ HW.1,⟨HLT.1⟩,a4,a5⟩
          case measure=>rw [HW.1];simp only [intOf];have:=HLT.1;omega
        · have hd:decide ((i:Int) < (B.length:Int))=false:=decide_eq_false (by omega)
          have G:decide (i < B.length)=false:=decide_eq_false hlt
          have hi:i=B.length:=by have:=HI.1;omega
          subst hi
          rw [List.take_length] at HO
          clear hlt
          go_wp2
          go_ret
          exact ⟨_,rfl,HO.1,D.1⟩
def count_sum.el (k:Nat) (a b:S60):Option S60:=(count_plus.f k a.f0 b.f0).bind fun p=>if (a.f1 ++ b.f1).length ≤ 1000000 then (count_copies.f k (a.f1 ++ b.f1)).bind fun c=>some ⟨p,c⟩ else none
def count_sum.row (k:Nat) (a:S60):List S60 → Option (List S60)
  | []=>some []
  | b :: r=>(count_sum.el k a b).bind fun e=>(count_sum.row k a r).bind fun s=>some (e :: s)
def count_sum.g (k:Nat) (y:List S60):List S60 → Option (List S60)
  | []=>some []
  | a :: r=>(count_sum.row k a y).bind fun s=>(count_sum.g k y r).bind fun t=>some (s ++ t)
def count_sum.f (k:Nat) (x y:List S60):Option (List S60):=if x.length ≤ 5000∧y.length ≤ 5000 then count_sum.g k y x else none
theorem count_sum.mono_el (k:Nat) (a b:S60):LeO (count_sum.el k a b) (count_sum.el (k + 1) a b):=by unfold count_sum.el;exact LeO.bind (count_plus.mono _ _ k) (fun _=>LeO.ite (LeO.bind (count_copies.mono _ k) (fun _=>LeO.refl _)) (LeO.refl _))
theorem count_sum.mono_row (k:Nat) (a:S60):∀ l,LeO (count_sum.row k a l) (count_sum.row (k + 1) a l)
  | []=>LeO.refl _
  | b :: r=>LeO.bind (count_sum.mono_el k a b) (fun _=>LeO.bind (count_sum.mono_row k a r) (fun _=>LeO.refl _))
theorem count_sum.mono_g (k:Nat) (y:List S60):∀ l,LeO (count_sum.g k y l) (count_sum.g (k + 1) y l)
  | []=>LeO.refl _
  | a :: r=>LeO.bind (count_sum.mono_row k a y) (fun _=>LeO.bind (count_sum.mono_g k y r) (fun _=>LeO.refl _))
theorem count_sum.mono:∀ a0 a1 k,LeO (count_sum.f k a0 a1) (count_sum.f (k + 1) a0 a1):=fun a0 a1 k=>by unfold count_sum.f;exact LeO.ite (count_sum.mono_g k _ _) (LeO.refl _)
def count_sum.v (k:Nat) (a b:S60):S60:=(count_sum.el k a b).getD z60
theorem count_sum.row_some {k:Nat} {a:S60}:∀ {l r:List S60},count_sum.row k a l=some r → r=l.map (count_sum.v k a)∧∀ b ∈ l,count_sum.el k a b=some (count_sum.v k a b)
  | [],r,h=>⟨(Option.some.inj h).symm,fun b hb=>by simp at hb⟩
  | b :: l,r,h=>by obtain ⟨e,he,h⟩:=Option.bind_eq_some_iff.mp h;obtain ⟨s,hs,h⟩:=Option.bind_eq_some_iff.mp h;obtain rfl:=Option.some.inj h;obtain ⟨h1,h2⟩:=count_sum.row_some hs;(have hv:count_sum.v k a b=e:=by unfold count_sum.v;rw [he];rfl);refine ⟨by rw [m1_,hv,← h1],fun c hc=>?_⟩;(rcases List.mem_cons.mp hc with rfl|hc);(· rw [hv];exact he);· exact h2 c hc
theorem count_sum.g_some {k:Nat} {y:List S60}:∀ {l r:List S60},count_sum.g k y l=some r → r=l.flatMap (fun a=>y.map (count_sum.v k a))∧∀ a ∈ l,∀ b ∈ y,count_sum.el k a b=some (count_sum.v k a b)
  | [],r,h=>⟨(Option.some.inj h).symm,fun b hb=>by simp at hb⟩
  | a :: l,r,h=>by obtain ⟨s,hs,h⟩:=Option.bind_eq_some_iff.mp h;obtain ⟨t,ht,h⟩:=Option.bind_eq_some_iff.mp h;obtain rfl:=Option.some.inj h;obtain ⟨h1,h2⟩:=count_sum.row_some hs;obtain ⟨h3,h4⟩:=count_sum.g_some ht;refine ⟨by rw [List.flatMap_cons,← h1,← h3],fun c hc=>?_⟩;(rcases List.mem_cons.mp hc with rfl|hc);(· exact h2);· exact h4 c hc
def count_sum.at (k:Nat) (x y:List S60) (i j:Nat):List S60:=(x.take i).flatMap (fun a=>y.map (count_sum.v k a)) ++ (y.take j).map (count_sum.v k (x.getD i z60))
theorem count_sum.at_row (k:Nat) (x y:List S60) (i:Nat) (hi:i < x.length):count_sum.at k x y i y.length=count_sum.at k x y (i + 1) 0:=by unfold count_sum.at;rw [List.take_length,List.take_add_one,List.flatMap_append,List.getD_eq_getElem?_getD,List.getElem?_eq_getElem hi];simp
theorem count_sum.at_succ (k:Nat) (x y:List S60) (i j:Nat) (hj:j < y.length):count_sum.at k x y i (j + 1)=count_sum.at k x y i j ++ [count_sum.v k (x.getD i z60) (y.getD j z60)]:=by unfold count_sum.at;rw [List.take_add_one,List.map_append,← List.append_assoc,List.getD_eq_getElem?_getD (l:=y),List.getElem?_eq_getElem hj];simp
theorem count_sum.at_len (k:Nat) (x y:List S60) (i j:Nat) (hx:x.length ≤ 5000) (hy:y.length ≤ 5000):(count_sum.at k x y i j).length ≤ 25005000:=by
  unfold count_sum.at
  have h1:∀ l:List S60,(l.flatMap (fun a=>y.map (count_sum.v k a))).length=l.length * y.length:=fun l=>by
    induction l with
    | nil=>simp
    | cons a l ih=>rw [List.flatMap_cons,List.length_append,ih,List.length_map,List.length_cons,Nat.succ_mul];omega
  rw [List.length_append,h1,List.length_map,l1_,l1_];have:min i x.length * y.length ≤ 5000 * 5000:=Nat.mul_le_mul (by omega) hy;omega
theorem mem_getD {l:List S60} {i:Nat} (h:i < l.length):l.getD i z60 ∈ l:=by rw [List.getD_eq_getElem?_getD,List.getElem?_eq_getElem h];exact List.getElem_mem h
theorem sum_step {ops:Array Oper} {o:Oper} {a:Act} {w W0 W wp wd:World} {Q:Exit → Act → World → Prop} {Kc:Act → World → Prop} {gb:Nat} {v:Value} {l:List S60} {p:List Int} {q:List (List Int)} {Ap Aq:Option Addr} {cp cq:Nat}
    (ho:o.op=.call { callee:=.builtin .append,args:=#[.tmp 22,.tmp 36],argTypes:=#[22,22] }) (hw:Region.wanted o (yielded ops a.tmps)=true) (hs:a.eval (.tmp 22)=v) (hx:a.eval (.tmp 36)=.slice (some ⟨W.heap.size,0,none⟩) 1 1)
    (hN:Kd.N k60 60 W0 w.heap.size (fun k_=>w.heap.size ≤ k_∧k_ ≠ gb) v l) (hB:Below w.heap.size w W0) (hP:Kd.R (Kd.int .i64) 3 wp W0.heap.size (fun _=>True) (.slice Ap p.length cp) p) (hD:Kd.R (Kd.slice 3 (Kd.int .i64)) 23 wd W0.heap.size (fun _=>True) (.slice Aq q.length cq) q)
    (hbp:Below wp.heap.size wp W) (hbd:Below wd.heap.size wd W) (hbw:Below W0.heap.size W0 W) (hgb:gb < W0.heap.size) (hl:l.length ≤ 25005000)
    (h:∀ C B,Kd.N k60 60 B w.heap.size (fun k_=>w.heap.size ≤ k_∧k_ ≠ gb) C (l ++ [⟨p,q⟩]) → Below w.heap.size w B → W.grownBy B v.ownBlock → Kc (a.put o.dst C) B) :
    if Region.wanted o (yielded ops a.tmps)=true then Oper.wp Try.prog o a (W.alloc (.cells #[.slice Ap p.length cp,.slice Aq q.length cq] 60)) Kc Q else Kc (a.put o.dst undef) (W.alloc (.cells #[.slice Ap p.length cp,.slice Aq q.length cq] 60)):=by
  have G:=hB.size;have I:=hbw.size
  refine Kd.N_append_step k60 (w0:=w) (W:=W) w.heap.size hw (.tmp 22) (.tmp 36) 22 60 (.agg #[.slice none 0 0,.slice none 0 0]) 48 ho Try.underlying22 info60 rfl (by decide) (by omega) v l (⟨p,q⟩:S60) [.slice Ap p.length cp,.slice Aq q.length cq] (fun k_=>w.heap.size ≤ k_∧k_ ≠ gb) (fun k_=>W0.heap.size ≤ k_) hs hx
    (k60_mkF _ _ (⟨p,q⟩:S60) (Kd.R_reads' hP).2.1 (Kd.F_below (Kd.F_mono (Kd.R_F (Kd.R_bound hP)) (fun k_ hk=>hk.2.1)) hbp) (Kd.R_reads' hD).2.1 (Kd.F_below (Kd.F_mono (Kd.R_F (Kd.R_bound hD)) (fun k_ hk=>hk.2.1)) hbd))
    (fun k_ hk=>⟨⟨by omega,by omega⟩,fun he=>by have:=Kd.N_lt hN k_ he.symm;omega⟩) (fun k_ hk=>⟨by omega,by omega⟩) (Kd.N_below hN hbw) (below_step hB hbw) (by omega) (by omega) ?_
  intro C B D E F _;exact h C B D E F
theorem new_drew (w:World) (o:Obj):((w.alloc o).drew).heap[w.heap.size]?=some o:=blk_new w o
theorem C_two_rows {w:World} {g:Nat} {A B:Option Addr} {c d:Nat} {l m:List (List Int)} (h:w.heap[g]?=some (.cells #[.slice A l.length c,.slice B m.length d] 58 (0,0))) (hC:Kd.C (Kd.slice 3 (Kd.int .i64)) w A l.length l) (hc:l.length ≤ c) (hD:Kd.C (Kd.slice 3 (Kd.int .i64)) w B m.length m) (hd:m.length ≤ d) :
    Kd.C (Kd.slice 23 (Kd.slice 3 (Kd.int .i64))) w (some ⟨g,0,none⟩) [l,m].length [l,m]:=by
  refine ⟨rfl,by simp,fun _=>⟨⟨g,0,none⟩,rfl,fun q u hq=>?_⟩⟩;have hs:(Kd.slice 23 (Kd.slice 3 (Kd.int .i64))).sz=1:=rfl
  match q,hq with
  | 0,hq =>
    (have hu:u=l:=by simpa using hq.symm);subst hu;refine ⟨[.slice A u.length c],rfl,⟨A,c,rfl,hc,hC⟩,fun a b hab=>?_⟩
    have ha0:a=0:=by
      cases a with
      | zero=>rfl
      | succ a=>simp at hab
    subst ha0;(have hb:b=.slice A u.length c:=by simpa using hab.symm);subst hb;(have e:(⟨g,0,none⟩:Addr).add (0 * (Kd.slice 23 (Kd.slice 3 (Kd.int .i64))).sz + 0)=⟨g,0,none⟩:=by simp [Addr.add]);rw [e,blk_cell h];rfl
  | 1,hq =>
    (have hu:u=m:=by simpa using hq.symm);subst hu;refine ⟨[.slice B u.length d],rfl,⟨B,d,rfl,hd,hD⟩,fun a b hab=>?_⟩
    have ha0:a=0:=by
      cases a with
      | zero=>rfl
      | succ a=>simp at hab
    subst ha0;(have hb:b=.slice B u.length d:=by simpa using hab.symm);subst hb;(have e:(⟨g,0,none⟩:Addr).add (1 * (Kd.slice 23 (Kd.slice 3 (Kd.int .i64))).sz + 0)=⟨g,1,none⟩:=by simp [Addr.add,hs]);rw [e,blk_cell h];rfl
  | q + 2,hq=>simp at hq
theorem row_start {w wr w3:World} {gb:Nat} {v5:Value} {l:List S60} {u v:Value} (hO:Kd.N k60 60 wr w.heap.size (fun k_=>w.heap.size ≤ k_) v5 l) (hB:Below w.heap.size w wr) (hb:Below wr.heap.size wr w3) (hg:gb=wr.heap.size) (hbox:w3.heap[gb]?=some (.cells #[.slice none 0 0,.slice none 0 0] 60 (0,0))) :
    Kd.N k60 60 ((w3.setCell ⟨gb,0,none⟩ u).setCell ⟨gb,1,none⟩ v) w.heap.size (fun k_=>w.heap.size ≤ k_∧k_ ≠ gb) v5 l∧((w3.setCell ⟨gb,0,none⟩ u).setCell ⟨gb,1,none⟩ v).heap[gb]?=some (.cells #[u,v] 60 (0,0))∧Below w.heap.size w ((w3.setCell ⟨gb,0,none⟩ u).setCell ⟨gb,1,none⟩ v):=by
  refine ⟨?_,blk_put (blk_put hbox 0 _ rfl) 1 _ rfl,below_set (below_set (below_step hB hb) (by have:=hB.size;omega)) (by have:=hB.size;omega)⟩;exact Kd.N_far (Kd.N_far (Kd.N_below (Kd.N_mono (Kd.N_bound hO) (fun k_ hk=>⟨hk.1,by omega⟩)) hb) (fun k_ hk=>hk.2) _) (fun k_ hk=>hk.2) _
theorem row_next {w wr w3:World} {gb gc:Nat} {v5:Value} {l:List S60} {u v:Value} {cs:Array Value} (hO:Kd.N k60 60 wr w.heap.size (fun k_=>w.heap.size ≤ k_∧k_ ≠ gb) v5 l) (hgb:wr.heap[gb]?=some (.cells cs 60 (0,0))) (hB:Below w.heap.size w wr) (hb:Below wr.heap.size wr w3) (hg:gc=wr.heap.size) (hbox:w3.heap[gc]?=some (.cells #[.slice none 0 0,.slice none 0 0] 60 (0,0))) :
    Kd.N k60 60 ((w3.setCell ⟨gc,0,none⟩ u).setCell ⟨gc,1,none⟩ v) w.heap.size (fun k_=>w.heap.size ≤ k_∧k_ ≠ gb∧k_ ≠ gc) v5 l∧((w3.setCell ⟨gc,0,none⟩ u).setCell ⟨gc,1,none⟩ v).heap[gb]?=some (.cells cs 60 (0,0))∧((w3.setCell ⟨gc,0,none⟩ u).setCell ⟨gc,1,none⟩ v).heap[gc]?=some (.cells #[u,v] 60 (0,0))∧Below w.heap.size w ((w3.setCell ⟨gc,0,none⟩ u).setCell ⟨gc,1,none⟩ v):=by
  (have hne:gb ≠ gc:=by have:=blk_lt hgb;omega);refine ⟨?_,blk_far (blk_far (blk_below hgb hb) hne _) hne _,blk_put (blk_put hbox 0 _ rfl) 1 _ rfl,below_set (below_set (below_step hB hb) (by have:=hB.size;omega)) (by have:=hB.size;omega)⟩;have h:=Kd.N_mono (ok':=fun k_=>w.heap.size ≤ k_∧k_ ≠ gb∧k_ ≠ gc) (Kd.N_bound hO) (fun k_ hk=>⟨hk.1.1,hk.1.2,by omega⟩);exact Kd.N_far (Kd.N_far (Kd.N_below h hb) (fun k_ hk=>hk.2.2) _) (fun k_ hk=>hk.2.2) _
set_option maxHeartbeats 8000000 in
set_option maxRecDepth 100000 in
theorem count_sum.calls (k:Nat) (A0:Option Addr) (c0:Nat) (D:List S60) (A1:Option Addr) (c1:Nat) (E:List S60) (r:List S60) (w:World) (a5:Kd.C k60 w A0 D.length D) (G:D.length ≤ c0) (a6:Kd.C k60 w A1 E.length E) (b7:E.length ≤ c1) (h:count_sum.f k D E=some r) :
    Calls Try.prog 67 #[.slice A0 D.length c0,.slice A1 E.length c1] w fun e w'=>∃ F:Value,e=.returned F∧Kd.N k60 60 w' w.heap.size (fun k_=>w.heap.size ≤ k_) F r∧Below w.heap.size w w':=by
  unfold count_sum.f at h;split at h;(case isFalse=>cases h);rename_i hlen;obtain ⟨hr,hel⟩:=count_sum.g_some h;have b8:=mk0 a5;have b9:=mk0 a6;have HLEN:=mk0 hlen;have HR:=mk0 hr;have HEL:=mk0 hel;clear a5 G a6 b7 h hlen hr hel;have d5:=Try.underlying60;go_enter Try.func67,Try.ntmps67;go_wp2;go_loopw [5,12] (fun v5 a1 w'=>∃ i:Nat,a1=.int .i64 (i:Int)∧Aside0 (i ≤ D.length)∧Aside0 (Kd.N k60 60 w' w.heap.size (fun k_=>w.heap.size ≤ k_) v5 (count_sum.at k D E i 0))∧Aside0 (Below w.heap.size w w')) (fun _ a1 _=>D.length - (intOf a1).toNat);case atStart=>exact ⟨0,rfl,⟨Nat.zero_le _⟩,⟨Kd.N_nil _ _ _ _ _⟩,⟨Below.refl _ _⟩⟩
  case round =>
    obtain ⟨i,rfl,HI,HO,I⟩:=hrel;by_cases hlt:i < D.length
    · have hd:decide ((i:Int) < (D.length:Int))=true:=decide_eq_true (by omega)
      have c3:decide (i < D.length)=true:=decide_eq_true hlt
      have q0:((0:Int) ≤ (i:Int))=True:=eq_true (by omega)
      have q1:((i:Int) < (D.length:Int))=True:=eq_true (by omega)
      obtain ⟨ad,Aa,ca,Ab,cb,e,hx,hy,hla,hCa,hlb,hCb⟩:=at_T60 b8.1 (i:Int) (by omega) (by omega)
      cases e
      replace hx:=bd_ I hx
      replace hy:=bd_ I hy
      obtain ⟨a,ha⟩:∃ a,a=D.getD i z60:=⟨_,rfl⟩
      have hra:rd_T60 D (i:Int)=a:=by rw [ha];rfl
      rw [hra] at hx hy hla hCa hlb hCb
      simp only [Int.toNat_natCast] at hx hy
      have HCa:=mk0 hCa
      have HCb:=mk0 hCb
      have HLa:=mk0 hla
      have HLb:=mk0 hlb
      have HAA:=mk0 ha
      have HLT:=mk0 hlt
      have HW:Aside0 (wrap64 ((i:Int) + 1)=((i + 1:Nat):Int)):=⟨by have:=HLEN.1;unfold wrap64;omega⟩
      clear hCa hCb hla hlb ha hra hlt
      go_wp2_with (first
        | ((with_reducible refine gate_dst (N:=7) rfl ?_);refine box_event ?hg (N:=7) ?hd (cs:=#[.slice none 0 0,.slice none 0 0]) (t:=60) ?hr ?_;(case hd=>rfl);(case hg=>rfl);(case hr=>first|(go_simp;done)|(go_simp;rfl));intro gb hg J B hb;have BK:=mk0 B;have a7:=mk0 hb;have HG:=mk0 hg;have X:J.cell? ⟨gb,0,none⟩=some (.slice none 0 0):=(blk_cell B 0).trans rfl;have Y:J.cell? ⟨gb,1,none⟩=some (.slice none 0 0):=(blk_cell B 1).trans rfl;have Z:J.frozen? ⟨gb,0,none⟩=false:=blk_frozen B 0;have a0:J.frozen? ⟨gb,1,none⟩=false:=blk_frozen B 1;clear hb B hg))
      have U:=mk0 (row_start HO.1 I.1 a7.1 HG.1 BK.1 (u:=.slice Aa a.f0.length ca) (v:=.slice Ab a.f1.length cb))
      clear X Y Z a0
      generalize c4:(J.setCell ⟨gb,0,none⟩ (.slice Aa a.f0.length ca)).setCell ⟨gb,1,none⟩ (.slice Ab a.f1.length cb)=W1 at U ⊢
      have hgb:w.heap.size ≤ gb:=by have:=HG.1;have:=I.1.size;omega
      have HGB:=mk0 hgb
      clear c4 hgb HG BK a7 hx hy I HO
      go_loopw [5,18] (fun v5 a2 wq=>∃ j:Nat,a2=.int .i64 (j:Int)∧Aside0 (j ≤ E.length)∧Aside0 (Kd.N k60 60 wq w.heap.size (fun k_=>w.heap.size ≤ k_∧k_ ≠ gb) v5 (count_sum.at k D E i j))∧Aside0 (wq.heap[gb]?=some (.cells #[.slice Aa a.f0.length ca,.slice Ab a.f1.length cb] 60 (0,0)))∧Aside0 (Below w.heap.size w wq)) (fun _ a2 _=>E.length - (intOf a2).toNat)
      case atStart=>exact ⟨0,rfl,⟨Nat.zero_le _⟩,⟨U.1.1⟩,⟨U.1.2.1⟩,⟨U.1.2.2⟩⟩
      case round =>
        clear U;obtain ⟨j,rfl,HJ,HO,HBK,I⟩:=hrel;by_cases hjt:j < E.length
        · have c5:decide ((j:Int) < (E.length:Int))=true:=decide_eq_true (by omega)
          have c6:decide (j < E.length)=true:=decide_eq_true hjt
          have q2:((0:Int) ≤ (j:Int))=True:=eq_true (by omega)
          have q3:((j:Int) < (E.length:Int))=True:=eq_true (by omega)
          obtain ⟨d8,Ac,cc,Ad,cd,e,hx,hy,hlc,hCc,hld,hCd⟩:=at_T60 b9.1 (j:Int) (by omega) (by omega)
          cases e
          replace hx:=bd_ I hx
          replace hy:=bd_ I hy
          obtain ⟨b,hb⟩:∃ b,b=E.getD j z60:=⟨_,rfl⟩
          have hrb:rd_T60 E (j:Int)=b:=by rw [hb];rfl
          rw [hrb] at hx hy hlc hCc hld hCd
          simp only [Int.toNat_natCast] at hx hy
          have HCc:=mk0 hCc
          have HCd:=mk0 hCd
          have HLc:=mk0 hlc
          have HLd:=mk0 hld
          have HBBq:=mk0 hb
          have HJT:=mk0 hjt
          have HWj:Aside0 (wrap64 ((j:Int) + 1)=((j + 1:Nat):Int)):=⟨by have:=HLEN.1;unfold wrap64;omega⟩
          have HE:Aside0 (count_sum.el k a b=some (count_sum.v k a b)):=⟨HEL.1 a (by rw [HAA.1];exact mem_getD HLT.1) b (by rw [hb];exact mem_getD hjt)⟩
          clear hCc hCd hlc hld hb hrb hjt
          go_wp2_with (first
            | ((with_reducible refine gate_dst (N:=9) rfl ?_);refine box_event ?hg (N:=9) ?hd (cs:=#[.slice none 0 0,.slice none 0 0]) (t:=60) ?hr ?_;(case hd=>rfl);(case hg=>rfl);(case hr=>first|(go_simp;done)|(go_simp;rfl));intro gc hg J B hb;have HSC:=mk0 (row_next HO.1 HBK.1 I.1 hb hg B (u:=.slice Ac b.f0.length cc) (v:=.slice Ad b.f1.length cd));have X:J.cell? ⟨gc,0,none⟩=some (.slice none 0 0):=(blk_cell B 0).trans rfl;have Y:J.cell? ⟨gc,1,none⟩=some (.slice none 0 0):=(blk_cell B 1).trans rfl;have Z:J.frozen? ⟨gc,0,none⟩=false:=blk_frozen B 0;have a0:J.frozen? ⟨gc,1,none⟩=false:=blk_frozen B 1;clear hb B hg))
          clear X Y Z a0 hx hy
          generalize c7:(J.setCell ⟨gc,0,none⟩ (.slice Ac b.f0.length cc)).setCell ⟨gc,1,none⟩ (.slice Ad b.f1.length cd)=W0 at HSC ⊢
          clear c7
          obtain ⟨T,M,G,a3⟩:=HSC.1
          have c8:=mk0 (Kd.N_mono (ok':=fun k_=>w.heap.size ≤ k_∧k_ ≠ gb) T (fun k_ hk=>⟨hk.1,hk.2.1⟩))
          have V:=mk0 a3
          have HSOF:Aside0 (∀ w',Below W0.heap.size W0 w' → w'.cell? ⟨gb,0,none⟩=some (.slice Aa a.f0.length ca)∧w'.cell? ⟨gb,1,none⟩=some (.slice Ab a.f1.length cb)∧w'.cell? ⟨gc,0,none⟩=some (.slice Ac b.f0.length cc)∧w'.cell? ⟨gc,1,none⟩=some (.slice Ad b.f1.length cd)):=⟨fun w' hb=>⟨(blk_cell (blk_below M hb) 0).trans rfl,(blk_cell (blk_below M hb) 1).trans rfl,(blk_cell (blk_below G hb) 0).trans rfl,(blk_cell (blk_below G hb) 1).trans rfl⟩⟩
          obtain ⟨p,hp,hE⟩:=Option.bind_eq_some_iff.mp HE.1
          split at hE
          case isFalse=>cases hE
          rename_i hll
          obtain ⟨q,hq,hE⟩:=Option.bind_eq_some_iff.mp hE
          have HV:=mk0 (Option.some.inj hE)
          obtain ⟨L,hL⟩:∃ L,L=a.f1 ++ b.f1:=⟨_,rfl⟩
          rw [← hL] at hq hll
          have HPC:Aside0 (∀ W,Below W0.heap.size W0 W → Calls Try.prog 93 #[.slice Aa a.f0.length ca,.slice Ac b.f0.length cc] W fun e w'=>∃ F:Value,e=.returned F∧Kd.R (Kd.int .i64) 3 w' W0.heap.size (fun _=>True) F p∧Below W.heap.size W w'):=⟨fun W hW=>by
            refine (count_plus.calls k Aa ca a.f0 Ac cc b.f0 p W (Kd.C_below (Kd.C_below HCa.1 V.1) hW) HLa.1 (Kd.C_below (Kd.C_below HCc.1 V.1) hW) HLc.1 hp).mono ?_;rintro e w' ⟨v,rfl,hR,hb⟩
            exact ⟨v,rfl,Kd.R_lower hR hW.size,hb⟩⟩
          have HCC:Aside0 (∀ (g:Nat) (W:World),Below W0.heap.size W0 W → W.heap[g]?=some (.cells #[.slice Ab a.f1.length cb,.slice Ad b.f1.length cd] 58 (0,0)) → Calls Try.prog 95 #[.slice (some ⟨g,0,none⟩) 2 2] W fun e w'=>∃ (O:Option Addr) (Q:Nat),e=.returned (.slice O L.length Q)∧L.length ≤ Q∧Kd.C (Kd.slice 3 (Kd.int .i64)) w' O L.length L∧Below W.heap.size W w'):=⟨fun g W hW hg=>by
            (have hf:([a.f1,b.f1]:List (List (List Int))).flatten=L:=by rw [hL];simp);refine (Concat_rows.calls (some ⟨g,0,none⟩) 2 [a.f1,b.f1] W (C_two_rows hg (Kd.C_below (Kd.C_below HCb.1 V.1) hW) HLb.1 (Kd.C_below (Kd.C_below HCd.1 V.1) hW) HLd.1) (Nat.le_refl _) (by simp) (by rw [hf];exact hll)).mono ?_;rintro e w' ⟨v,rfl,hN,hb⟩;rw [hf] at hN;obtain ⟨O,Q,rfl,h1,h2⟩:=Kd.N_reads hN
            exact ⟨O,Q,rfl,h1,h2,hb⟩⟩
          have HDC:Aside0 (∀ (O:Option Addr) (Q:Nat) (W:World),Below W0.heap.size W0 W → Kd.C (Kd.slice 3 (Kd.int .i64)) W O L.length L → L.length ≤ Q → Calls Try.prog 94 #[.slice O L.length Q] W fun e w'=>∃ F:Value,e=.returned F∧Kd.R (Kd.slice 3 (Kd.int .i64)) 23 w' W0.heap.size (fun _=>True) F q∧Below W.heap.size W w'):=⟨fun O Q W hW hC hc=>by
            refine (count_copies.calls k O Q L q W hC hc hq).mono ?_;rintro e w' ⟨v,rfl,hS,hb⟩
            exact ⟨v,rfl,Kd.R_lower (Kd.S_R hS) hW.size,hb⟩⟩
          have c9:Aside0 (∀ k_,u5.ownBlock=some k_ → k_ < W0.heap.size∧k_ ≠ gb):=⟨fun k_ hk=>⟨Kd.N_lt T k_ hk,(T.1 k_ hk).2.1⟩⟩
          have HSOG:Aside0 (∀ W w',Below W0.heap.size W0 W → W.grownBy w' u5.ownBlock → w'.cell? ⟨gb,0,none⟩=some (.slice Aa a.f0.length ca)∧w'.cell? ⟨gb,1,none⟩=some (.slice Ab a.f1.length cb)∧w'.cell? ⟨gc,0,none⟩=some (.slice Ac b.f0.length cc)∧w'.cell? ⟨gc,1,none⟩=some (.slice Ad b.f1.length cd)):=⟨fun W w' hb hg=>by
            have e1:w'.heap[gb]?=some (.cells #[.slice Aa a.f0.length ca,.slice Ab a.f1.length cb] 60 (0,0)):=(hg.block gb (blk_lt (blk_below M hb)) (fun e=>(T.1 gb e.symm).2.1 rfl)).trans (blk_below M hb);have e2:w'.heap[gc]?=some (.cells #[.slice Ac b.f0.length cc,.slice Ad b.f1.length cd] 60 (0,0)):=(hg.block gc (blk_lt (blk_below G hb)) (fun e=>(T.1 gc e.symm).2.2 rfl)).trans (blk_below G hb)
            exact ⟨(blk_cell e1 0).trans rfl,(blk_cell e1 1).trans rfl,(blk_cell e2 0).trans rfl,(blk_cell e2 1).trans rfl⟩⟩
          have b2:Aside0 (W0.heap[gb]?=some (.cells #[.slice Aa a.f0.length ca,.slice Ab a.f1.length cb] 60 (0,0))):=⟨M⟩
          have HW0S:Aside0 (w.heap.size ≤ W0.heap.size∧gb < W0.heap.size):=⟨a3.size,blk_lt M⟩
          clear T M G a3 HSC hL hll hq hp hE
          go_region_held3 (fun w'=>w'.cell? ⟨gb,0,none⟩=some (.slice Aa a.f0.length ca)∧w'.cell? ⟨gb,1,none⟩=some (.slice Ab a.f1.length cb)∧w'.cell? ⟨gc,0,none⟩=some (.slice Ac b.f0.length cc)∧w'.cell? ⟨gc,1,none⟩=some (.slice Ad b.f1.length cd))
            (first|exact HSOG.1 _ _ (by ((repeat (first|exact Below.refl _ _|assumption|exact HWP.1|exact HWC.1|exact HWD.1|apply Below.drew|apply below_alloc|refine below_step ?_ HBP.1|refine below_step ?_ HBC.1|refine below_step ?_ HBD.1));done)) a8|exact HSOF.1 _ (by ((repeat (first|exact Below.refl _ _|assumption|exact HWP.1|exact HWC.1|exact HWD.1|apply Below.drew|apply below_alloc|refine below_step ?_ HBP.1|refine below_step ?_ HBC.1|refine below_step ?_ HBD.1));done)))
            (first
              | (go_at_call 93;(with_reducible refine (HPC.1 _ ?bc).mono ?_);(case bc=>(repeat (first|exact Below.refl _ _|assumption|exact HWP.1|exact HWC.1|exact HWD.1|apply Below.drew|apply below_alloc|refine below_step ?_ HBP.1|refine below_step ?_ HBC.1|refine below_step ?_ HBD.1)));rintro e wp ⟨vp,rfl,hRp,hbp⟩;obtain ⟨Ap,cp,rfl⟩:=Kd.R_slice hRp;have HRP:=mk0 hRp;have HBP:=mk0 hbp;have HWP:Aside0 (Below W0.heap.size W0 wp):=⟨by ((repeat (first|exact Below.refl _ _|assumption|exact HWP.1|exact HWC.1|exact HWD.1|apply Below.drew|apply below_alloc|refine below_step ?_ HBP.1|refine below_step ?_ HBC.1|refine below_step ?_ HBD.1));done)⟩;clear hRp hbp)
              | (go_at_call 95;(with_reducible refine (HCC.1 _ _ ?bc ?hg).mono ?_);(case bc=>(repeat (first|exact Below.refl _ _|assumption|exact HWP.1|exact HWC.1|exact HWD.1|apply Below.drew|apply below_alloc|refine below_step ?_ HBP.1|refine below_step ?_ HBC.1|refine below_step ?_ HBD.1)));(case hg=>first|exact blk_new _ _|exact new_drew _ _|exact blk_below (blk_new _ _) HBP.1|exact blk_below (new_drew _ _) HBP.1);rintro e wc ⟨O,Q,rfl,a9,b0,hbc⟩;have a4:=mk0 b0;have d2:=mk0 a9;have HBC:=mk0 hbc;have HWC:Aside0 (Below W0.heap.size W0 wc):=⟨by ((repeat (first|exact Below.refl _ _|assumption|exact HWP.1|exact HWC.1|exact HWD.1|apply Below.drew|apply below_alloc|refine below_step ?_ HBP.1|refine below_step ?_ HBC.1|refine below_step ?_ HBD.1));done)⟩;clear b0 a9 hbc)
              | (go_at_call 94;(with_reducible refine (HDC.1 O Q _ ?bc ?hg d2.1).mono ?_);(case bc=>(repeat (first|exact Below.refl _ _|assumption|exact HWP.1|exact HWC.1|exact HWD.1|apply Below.drew|apply below_alloc|refine below_step ?_ HBP.1|refine below_step ?_ HBC.1|refine below_step ?_ HBD.1)));(case hg=>first|exact a4.1|exact Kd.C_below a4.1 HBP.1|exact Kd.C_below a4.1 (by ((repeat (first|exact Below.refl _ _|assumption|exact HWP.1|exact HWC.1|exact HWD.1|apply Below.drew|apply below_alloc|refine below_step ?_ HBP.1|refine below_step ?_ HBC.1|refine below_step ?_ HBD.1));done)));rintro e wd ⟨vd,rfl,hRd,hbd⟩;obtain ⟨Aq,cq,rfl⟩:=Kd.R_slice hRd;have HRD:=mk0 hRd;have HBD:=mk0 hbd;have HWD:Aside0 (Below W0.heap.size W0 wd):=⟨by ((repeat (first|exact Below.refl _ _|assumption|exact HWP.1|exact HWC.1|exact HWD.1|apply Below.drew|apply below_alloc|refine below_step ?_ HBP.1|refine below_step ?_ HBC.1|refine below_step ?_ HBD.1));done)⟩;clear hRd hbd)
              | ((refine sum_step (by rfl) (by rfl) (by rfl) (by rfl) c8.1 V.1 HRP.1 HRD.1 ?bp ?bd ?bw HW0S.1.2 (count_sum.at_len k D E i j HLEN.1.1 HLEN.1.2) ?_;(case bp=>(repeat (first|exact Below.refl _ _|assumption|exact HWP.1|exact HWC.1|exact HWD.1|apply Below.drew|apply below_alloc|refine below_step ?_ HBP.1|refine below_step ?_ HBC.1|refine below_step ?_ HBD.1)));(case bd=>(repeat (first|exact Below.refl _ _|assumption|exact HWP.1|exact HWC.1|exact HWD.1|apply Below.drew|apply below_alloc|refine below_step ?_ HBP.1|refine below_step ?_ HBC.1|refine below_step ?_ HBD.1)));(case bw=>(repeat (first|exact Below.refl _ _|assumption|exact HWP.1|exact HWC.1|exact HWD.1|apply Below.drew|apply below_alloc|refine below_step ?_ HBP.1|refine below_step ?_ HBC.1|refine below_step ?_ HBD.1)));intro v1 w1 d3 d4 a8))
              | fail)
          all_goals
            go_wp2
            go_roundw
            case rel=>exact ⟨j + 1,congrArg _ HWj.1,⟨HJT.1⟩,⟨by rw [count_sum.at_succ k D E i j HJT.1,← HAA.1,← HBBq.1,← HV.1];exact d3⟩,⟨(a8.block gb (by have:=HW0S.1;have:=HWP.1.size;have:=HWD.1.size;omega) (fun e=>(c9.1 gb e.symm).2 rfl)).trans (blk_below b2.1 (by first|exact HWD.1|exact HWP.1))⟩,⟨d4⟩⟩
            case measure=>rw [HWj.1];simp only [intOf];have:=HJT.1;omega
        · have c5:decide ((j:Int) < (E.length:Int))=false:=decide_eq_false (by omega)
          have c6:decide (j < E.length)=false:=decide_eq_false hjt
          have hj:j=E.length:=by have:=HJ.1;omega
          subst hj
          clear hjt
          go_wp2
          go_roundw
          case rel=>exact ⟨i + 1,congrArg _ HW.1,⟨HLT.1⟩,⟨by rw [← count_sum.at_row k D E i HLT.1];exact Kd.N_mono HO.1 (fun k_ hk=>hk.1)⟩,I⟩
          case measure=>rw [HW.1];simp only [intOf];have:=HLT.1;omega
    · have hd:decide ((i:Int) < (D.length:Int))=false:=decide_eq_false (by omega)
      have c3:decide (i < D.length)=false:=decide_eq_false hlt
      have hi:i=D.length:=by have:=HI.1;omega
      subst hi
      clear hlt
      go_wp2
      go_ret
      refine ⟨_,rfl,?_,I.1⟩
      have h:=HO.1
      have e:count_sum.at k D E D.length 0=r:=by rw [HR.1];unfold count_sum.at;rw [List.take_length];simp
      rwa [e] at h
def count_Image_2.j0:Nat → Bool → List (S60) → Bool → List (S60) → Bool → Option ((List (S60)) × Bool)
  | 0,_,_,_,_,_=>none
  | k + 1,x10,x158000,x158001,x159000,x159001=>if x10=true then (some (([]:List (S60)),true)) else ((count_sum.f k x158000 x159000).bind fun t160=>((count_valid.f k t160 ([]:List (S102))).bind fun bt163=>(some (bt163.1,bt163.2))))
def count_Image_2.f (k:Nat) (l0_0:List (S60)) (a0_1:Bool) (l1_0:List (S60)) (a1_1:Bool):Option ((List (S60)) × Bool):=if a0_1=true then (count_Image_2.j0 k true l0_0 a0_1 l1_0 a1_1) else (count_Image_2.j0 k a1_1 l0_0 a0_1 l1_0 a1_1)
theorem count_Image_2.mono_l:∀ k,(∀ y0 y1 y2 y3 y4,LeO (count_Image_2.j0 k y0 y1 y2 y3 y4) (count_Image_2.j0 (k + 1) y0 y1 y2 y3 y4))
  | 0=>fun _ _ _ _ _ r h=>by simp [count_Image_2.j0] at h
  | k + 1=>by
    have ih0:=count_Image_2.mono_l k
    · intro y0 y1 y2 y3 y4
      unfold count_Image_2.j0
      with_reducible repeat' first|exact ih0 _ _ _ _ _|exact count_sum.mono _ _ _|exact count_valid.mono _ _ _|exact LeO.refl _|exact LeO.none _|refine LeO.ite ?_ ?_|refine LeO.bind ?_ (fun _=>?_)
theorem count_Image_2.mono:∀ a0 a1 a2 a3 k,LeO (count_Image_2.f k a0 a1 a2 a3) (count_Image_2.f (k + 1) a0 a1 a2 a3):=by intro a0 a1 a2 a3 k;have ih0:=count_Image_2.mono_l k;unfold count_Image_2.f;with_reducible repeat' first|exact ih0 _ _ _ _ _|exact count_sum.mono _ _ _|exact count_valid.mono _ _ _|exact LeO.refl _|exact LeO.none _|refine LeO.ite ?_ ?_|refine LeO.bind ?_ (fun _=>?_)
set_option maxHeartbeats 8000000 in
set_option maxRecDepth 100000 in
theorem count_Image_2.calls (k:Nat) (a1:Option Addr) (a2:Nat) (F:List (S60)) (M:Bool) (a3:Option Addr) (a4:Nat) (G:List (S60)) (I:Bool) (r1:List (S60)) (r2:Bool) (w:World) (b9:Kd.C k60 w a1 F.length F) (c0:F.length ≤ a2) (c2:Kd.C k60 w a3 G.length G) (c3:G.length ≤ a4) (h:count_Image_2.f k F M G I=some (r1,r2)) :
    Calls Try.prog 65 #[.agg #[.slice a1 F.length a2,.bool M],.agg #[.slice a3 G.length a4,.bool I]] w fun e w'=>∃ f4:Value,e=.returned (.agg #[f4,.bool r2])∧Kd.V k60 60 w' w.heap.size (fun k_=>(w.heap.size ≤ k_)) f4 r1∧Below w.heap.size w w':=by
 have h8:=Try.underlying102;have e7:=mk0 b9;have e8:=mk0 c0;clear b9 c0;have e9:=mk0 c2;have f0:=mk0 c3;clear c2 c3;have L:=mk0 (Below.refl w.heap.size w);have H:(if M=true then (count_Image_2.j0 k true F M G I) else (count_Image_2.j0 k I F M G I))=some (r1,r2):=h;clear h;have e3:=mk0 H;clear H;go_enter Try.func65,Try.ntmps65;go_upto_region 1 with (first|((with_reducible refine gate_dst (N:=2) rfl ?_);refine box_event ?hg (N:=2) ?hd (cs:=#[.slice a1 F.length a2,.bool M]) (t:=102) ?hr ?_;(case hd=>rfl);(case hg=>rfl);(case hr=>first|(go_simp;done)|(go_simp;rfl));intro Z hg w4 R hb;have B:=mk0 (R);have f1:=szw hg L;have a5:=f1;replace L:=bst L hb;clear hb R hg)|((with_reducible refine gate_dst (N:=3) rfl ?_);refine box_event ?hg (N:=3) ?hd (cs:=#[.slice a3 G.length a4,.bool I]) (t:=102) ?hr ?_;(case hd=>rfl);(case hg=>rfl);(case hr=>first|(go_simp;done)|(go_simp;rfl));intro a0 hg w5 R hb;have D:=mk0 (R);have f2:=szw hg L;have a6:=f2;have T:=nlt hg B;have U:=ngt hg B;replace B:=bkb B hb;replace L:=bst L hb;clear hb R hg)|((with_reducible refine gate_dst (N:=4) rfl ?_);refine box_event ?hg (N:=4) ?hd (cs:=#[.slice none 0 0,.bool false]) (t:=102) ?hr ?_;(case hd=>rfl);(case hg=>rfl);(case hr=>first|(go_simp;done)|(go_simp;rfl));intro J hg w6 R hb;have E:=mk0 (R);have f3:=szw hg L;have a7:=f3;have O:=nlt hg B;have Q:=ngt hg B;have X:=nlt hg D;have Y:=ngt hg D;replace B:=bkb B hb;replace D:=bkb D hb;replace L:=bst L hb;clear hb R hg));(try simp only [Act.put,s0_,s1_,s2_]);go_cut [10] (fun h5 wc=>∃ (kq:Nat) (a8:Bool),h5=.bool a8∧Aside0 (count_Image_2.j0 kq a8 F M G I=some (r1,r2))∧Aside0 (kq ≤ k)∧Aside0 (wc.heap[Z]?=some (.cells #[(.slice a1 F.length a2),.bool M] 102 (0,0)))∧Aside0 (wc.heap[a0]?=some (.cells #[(.slice a3 G.length a4),.bool I] 102 (0,0)))∧Aside0 (wc.heap[J]?=some (.cells #[(.slice none 0 0),.bool false] 102 (0,0)))∧Aside0 (Below w.heap.size w wc));case first =>have H:=e3.1;clear e3;by_cases c7:M=true;(· (subst c7;have H1:(count_Image_2.j0 k true F true G I)=some (r1,r2):=by rw [if_pos rfl] at H;exact H);clear H;have H:=H1;clear H1;have H':=mk0 H;clear H;have j6:=T.1;have j7:=U.1;have j8:=O.1;have j9:=Q.1;have d1:=q0_ B;have d2:=q1_ B;have d3:=blk_frozen B.1 0;have d4:=blk_frozen B.1 1;go_wp2;go_meet;case rel=>exact ⟨_,(true),(by first|rfl|(simp;done)|(simp [*];done)),H',⟨by first|omega|exact Nat.le_refl _⟩,⟨by exact B.1⟩,⟨by exact D.1⟩,⟨by exact E.1⟩,⟨by repeat (first|(with_reducible first|exact L.1|apply below_alloc|apply pw_below_drewN|apply below_drew1|refine below_set ?_ a5.1|refine below_set ?_ a6.1|refine below_set ?_ a7.1)|exact L.1)⟩⟩);· (replace c7:=Bool.eq_false_iff.mpr c7;subst c7;have H1:(count_Image_2.j0 k I F false G I)=some (r1,r2):=by rw [if_neg (show ¬ (false=true) by decide)] at H;exact H);clear H;have H:=H1;clear H1;have H':=mk0 H;clear H;have h9:=T.1;have i0:=U.1;have i1:=O.1;have i2:=Q.1;have d5:=q0_ B;have d6:=q1_ B;have d7:=blk_frozen B.1 0;have d8:=blk_frozen B.1 1;have i3:=X.1;have i4:=Y.1;have d9:=q0_ D;have e0:=q1_ D;have e1:=blk_frozen D.1 0;have e2:=blk_frozen D.1 1;go_wp2;go_meet;case rel=>exact ⟨_,(I),(by first|rfl|(simp;done)|(simp [*];done)),H',⟨by first|omega|exact Nat.le_refl _⟩,⟨by exact B.1⟩,⟨by exact D.1⟩,⟨by exact E.1⟩,⟨by repeat (first|(with_reducible first|exact L.1|apply below_alloc|apply pw_below_drewN|apply below_drew1|refine below_set ?_ a5.1|refine below_set ?_ a6.1|refine below_set ?_ a7.1)|exact L.1)⟩⟩
 case rest =>
  (clear e3;try clear c1);(try clear p2);(try clear c6);(try clear c7);(try clear c8);(try clear c9);(try clear c11);(try clear c12);(try clear c14);(try clear d1);(try clear d2);(try clear d5);(try clear d6);(try clear d9);(try clear e0);(try clear d3);(try clear d4);(try clear d7);(try clear d8);(try clear e1);try clear e2
  obtain ⟨kq,a8,rfl,HA,l2,B,D,E,L⟩:=hcut;cases kq with
  | zero=>exact absurd HA.1 (by simp [count_Image_2.j0])
  | succ kj2 =>have H:=HA.1;clear HA;simp only [count_Image_2.j0] at H;by_cases c4:a8=true;(· (subst c4;have H1:(some (([]:List (S60)),true))=some (r1,r2):=by rw [if_pos rfl] at H;exact H);clear H;have H:=H1;clear H1;simp only [Option.some.injEq,Prod.mk.injEq] at H;obtain ⟨rfl,rfl⟩:=H;have i5:=Q.1;have i6:=O.1;have i7:=Y.1;have i8:=X.1;have f9:=q0_ E;have g0:=q1_ E;have g1:=blk_frozen E.1 0;have g2:=blk_frozen E.1 1;go_wp2;refine bodyPost_ret (results_cell_row rfl _ _ J 102 #[.slice none 0 0,.bool true] (0,0) _ rfl (by refine blk_put (cs:=#[.slice none 0 0,.bool false]) ?_ 1 _ rfl;refine blk_put (cs:=#[.slice none 0 0,.bool false]) ?_ 0 _ rfl;exact E.1) Try.underlying102 rfl (by kernel_rfl)) rfl ?_;exact ⟨_,by first|rfl|(simp [errW_none,errW_some] <;> rfl)|(simp [*,errW_none,errW_some] <;> rfl),Kd.N_V (base:=0) (by first|exact Kd.R_nil _ _ _ _ _|exact Kd.N_nil _ _ _ _ _|exact Kd.V_nil _ _ _ _ _|exact Kd.Q_nil _ _ _ _ _|exact Kd.S_nil _ _ _ _ _),by repeat (first|(with_reducible first|exact L.1|apply below_alloc|apply pw_below_drewN|apply below_drew1|refine below_set ?_ a5.1|refine below_set ?_ a6.1|refine below_set ?_ a7.1)|exact L.1)⟩);· (replace c4:=Bool.eq_false_iff.mpr c4;subst c4;have H1:((count_sum.f kj2 F G).bind fun b1=>((count_valid.f kj2 b1 ([]:List (S102))).bind fun c5=>(some (c5.1,c5.2))))=some (r1,r2):=by rw [if_neg (show ¬ (false=true) by decide)] at H;exact H);clear H;have H:=H1;clear H1;replace H:=Option.bind_eq_some_iff.mp H;obtain ⟨b1,e5,H⟩:=H;(try dsimp only at H);have h6:=mk0 e5;clear e5;replace H:=Option.bind_eq_some_iff.mp H;obtain ⟨⟨b2,b6⟩,e6,H⟩:=H;(try dsimp only at H);have h7:=mk0 e6;clear e6;simp only [Option.some.injEq,Prod.mk.injEq] at H;obtain ⟨rfl,rfl⟩:=H;have i9:=T.1;have j1:=U.1;have j2:=O.1;have j3:=Q.1;have g3:=q0_ B;have g4:=q1_ B;have g5:=blk_frozen B.1 0;have g6:=blk_frozen B.1 1;have j4:=X.1;have j5:=Y.1;have g7:=q0_ D;have g8:=q1_ D;have g9:=blk_frozen D.1 0;have h0:=blk_frozen D.1 1;go_wp2_with (first|((with_reducible refine gate_callee (f:=67) rfl ?_);refine goesL_ (some 16) rfl rfl Try.func67 (by kernel_rfl) rfl #[.slice a1 F.length a2,.slice a3 G.length a4] rfl (by (try simp only [m0_,m1_,m2_]);first|done|rfl|(simp only [l0_,l1_];rfl)) ?_;(with_reducible refine (count_sum.calls kj2 _ _ F _ _ G b1 _ ?side1 ?side2 ?side3 ?side4 h6.1).mono ?_);(case side1=>repeat (first|exact (Kd.C_below e7.1 L.1)|(with_reducible refine Kd.C_alloc ?_ _)|(with_reducible refine Kd.C_drewN ?_ _)|(with_reducible refine Kd.C_drew ?_)));(case side2=>exact e8.1);(case side3=>repeat (first|exact (Kd.C_below e9.1 L.1)|(with_reducible refine Kd.C_alloc ?_ _)|(with_reducible refine Kd.C_drewN ?_ _)|(with_reducible refine Kd.C_drew ?_)));(case side4=>exact f0.1);rintro e l3 ⟨l0,rfl,b5,hb⟩;refine ⟨_,rfl,?_⟩;have a9:=mk0 (Kd.N_lower (Kd.N_mono (ok':=fun k_=>(w.heap.size ≤ k_)∧k_ ≠ Z∧k_ ≠ a0∧k_ ≠ J) b5 (fun k_ hk_=>⟨(Nat.le_trans (below_size L.1) hk_),(Kd.freshB (g:=Z) (o:=.cells #[.slice a1 F.length a2,.bool M] 102 (0,0)) B.1 k_ hk_),(Kd.freshB (g:=a0) (o:=.cells #[.slice a3 G.length a4,.bool I] 102 (0,0)) D.1 k_ hk_),(Kd.freshB (g:=J) (o:=.cells #[.slice none 0 0,.bool false] 102 (0,0)) E.1 k_ hk_)⟩)) (below_size L.1));replace B:=bkb B hb;replace D:=bkb D hb;replace E:=bkb E hb;replace L:=bst L hb;(try clear hb);(try clear b5);obtain ⟨f5,f6,f7⟩:=Kd.N_slice a9.1;subst f7)|((with_reducible refine gate_callee (f:=66) rfl ?_);refine goesL_ (some 17) rfl rfl Try.func66 (by kernel_rfl) rfl #[.slice f5 b1.length f6,.slice none 0 0] rfl (by (try simp only [m0_,m1_,m2_]);first|done|rfl|(simp only [l0_,l1_];rfl)) ?_;(refine (count_valid.calls kj2 (fun k_=>((w.heap.size ≤ k_)∧(k_ ≠ Z∧(k_ ≠ a0∧k_ ≠ J)))) _ _ b1 _ _ ([]:List (S102)) b2 b6 _ ?side1 ?side2 ?side3 h7.1).mono ?_);(case side1=>exact Kd.N_V (a9.1));(case side2=>exact Kd.C_nil _ _);(case side3=>exact Nat.le_refl _);rintro e l4 ⟨l1,rfl,b5,hb⟩;refine ⟨_,rfl,?_⟩;have d0:=mk0 (Kd.V_lower (Kd.V_mono (ok':=fun k_=>(w.heap.size ≤ k_)∧k_ ≠ Z∧k_ ≠ a0∧k_ ≠ J) b5 (fun k_ hk_=>⟨Or.elim hk_ (fun hs_=>hs_.1) (fun hn_=>(Nat.le_trans (below_size L.1) hn_)),Or.elim hk_ (fun hs_=>hs_.2.1) (fun hn_=>(Kd.freshB (g:=Z) (o:=.cells #[.slice a1 F.length a2,.bool M] 102 (0,0)) B.1 k_ hn_)),Or.elim hk_ (fun hs_=>hs_.2.2.1) (fun hn_=>(Kd.freshB (g:=a0) (o:=.cells #[.slice a3 G.length a4,.bool I] 102 (0,0)) D.1 k_ hn_)),Or.elim hk_ (fun hs_=>hs_.2.2.2) (fun hn_=>(Kd.freshB (g:=J) (o:=.cells #[.slice none 0 0,.bool false] 102 (0,0)) E.1 k_ hn_))⟩)) (below_size L.1));replace a9:=mk0 (Kd.N_below a9.1 hb);replace B:=bkb B hb;replace D:=bkb D hb;replace E:=bkb E hb;replace L:=bst L hb;(try clear hb);(try clear b5);obtain ⟨b7,b8,f8⟩:=Kd.V_slice d0.1;subst f8;have h1:=q0_ E;have h2:=q1_ E;have h3:=blk_frozen E.1 0;have h4:=blk_frozen E.1 1));refine bodyPost_ret (results_cell_row rfl _ _ J 102 #[.slice b7 b2.length b8,.bool b6] (0,0) _ rfl (by refine blk_put (cs:=#[.slice b7 b2.length b8,.bool false]) ?_ 1 _ rfl;refine blk_put (cs:=#[.slice none 0 0,.bool false]) ?_ 0 _ rfl;exact E.1) Try.underlying102 rfl (by kernel_rfl)) rfl ?_;exact ⟨_,by first|rfl|(simp [errW_none,errW_some] <;> rfl)|(simp [*,errW_none,errW_some] <;> rfl),by exact Kd.V_mono (Kd.V_far (p:=⟨J,1,none⟩) (Kd.V_far (p:=⟨J,0,none⟩) (Kd.V_mono d0.1 (fun k_ hk=>(⟨hk,hk.2.2.2⟩:_∧k_ ≠ J))) (fun _ hk=>hk.2) (.slice b7 b2.length b8)) (fun _ hk=>hk.2) (.bool b6)) (fun _ hk=>hk.1.1),by repeat (first|(with_reducible first|exact L.1|apply below_alloc|apply pw_below_drewN|apply below_drew1|refine below_set ?_ a5.1|refine below_set ?_ a6.1|refine below_set ?_ a7.1)|exact L.1)⟩
def count_empty.f :Option ((List (S60))):=if 3 ≤ 35184372088832 then (some (([(⟨(List.replicate 3 0),([]:List (List Int))⟩:S60)]:List (S60)))) else (none)
set_option maxHeartbeats 8000000 in
set_option maxRecDepth 100000 in
theorem count_empty.calls  (r:List (S60)) (w:World) (h:count_empty.f =some r) :
    Calls Try.prog 69 #[] w fun e w'=>∃ T:Value,e=.returned (T)∧Kd.N k60 60 w' w.heap.size (fun k_=>(w.heap.size ≤ k_)) T r∧Below w.heap.size w w':=by
 have Z:=Try.underlying60;have G:=mk0 (Below.refl w.heap.size w);have H:(if 3 ≤ 35184372088832 then (some (([(⟨(List.replicate 3 0),([]:List (List Int))⟩:S60)]:List (S60)))) else (none))=some r:=h;clear h;by_cases c1:3 ≤ 35184372088832;(· rw [if_pos c1] at H;have c1b0:=eq_true c1;have c1b1:decide (3 ≤ 35184372088832)=true:=decide_eq_true c1;clear c1;obtain ⟨B,C⟩:∃ y_:List Int,y_=(List.replicate 3 0):=⟨_,rfl⟩;(replace H:(some (([(⟨B,([]:List (List Int))⟩:S60)]:List (S60))))=some r:=by first|(rw [C];with_reducible exact H)|(have F:=(Option.bind_some _ _).symm.trans H;rw [C];with_reducible exact F)|(have F:=(Option.bind_some _ _).symm.trans H;with_reducible exact F)|with_reducible exact H|(rw [C];exact H)|exact H);have O:=mk0 C;clear C;obtain ⟨X,D⟩:∃ y_:List (S60),y_=(([(⟨B,([]:List (List Int))⟩:S60)]:List (S60))):=⟨_,rfl⟩;(replace H:(some X)=some r:=by first|(rw [D];with_reducible exact H)|(have F:=(Option.bind_some _ _).symm.trans H;rw [D];with_reducible exact F)|(have F:=(Option.bind_some _ _).symm.trans H;with_reducible exact F)|with_reducible exact H|(rw [D];exact H)|exact H);have Q:=mk0 D;clear D;obtain rfl:=Option.some.inj H;go_enter Try.func69,Try.ntmps69;go_wp2_with (first|((with_reducible refine gate_dst (N:=1) rfl ?_);refine Kd.R_make (Kd.int .i64) _ 3 rfl (N:=1) rfl 23 _ _ rfl 3 rfl rfl Try.underlying23 (.int .i64 0) 8 info3 rfl (by decide) (by omega) 0 (ok:=fun _=>True) (okp:=fun _=>True) rfl (fun _ hk=>hk) trivial (by omega) (by omega) (Below.refl _ _) (Nat.le_refl _) ?_;intro a0 w2 J hb hg_ I;clear hg_ I;(first|rw [← O.1] at J|(simp only [Int.reduceToNat] at J;rw [← O.1] at J));have E:=mk0 (Kd.R_lower (Kd.R_newM (M:=fun k_=>(w.heap.size ≤ k_)) J (below_size G.1) (fun k_ h_=>h_)) (below_size G.1));replace G:=bst G hb;clear hb J;obtain ⟨U,V,Y⟩:=Kd.R_slice E.1;subst Y)|((with_reducible refine gate_dst (N:=3) rfl ?_);refine Kd.N_lit k60 _ 60 ?hg (N':=3) ?hd (xs:=([(⟨B,([]:List (List Int))⟩:S60)]:List (S60))) (inner:=[.slice U B.length V,.slice none 0 0]) (ok:=(fun k_=>(w.heap.size ≤ k_))) (okp:=(fun k_=>(w.heap.size ≤ k_))) ?hr ?hp (fun _ hk=>hk) ((show ∀ k_,w2.heap.size ≤ k_ → (fun k_=>(w.heap.size ≤ k_)) k_ from fun k_ hk=>(Nat.le_trans (below_size G.1) hk)) _ (Nat.le_refl _)) (Below.refl _ _) (Nat.le_refl _) (by simp) ?_;(case hd=>rfl);(case hg=>rfl);(case hr=>first|(go_simp;done)|(go_simp;rfl));(case hp=>exact (Reps.c2 (show Kd.FK k60 _ _ (⟨B,([]:List (List Int))⟩:S60) [.slice U B.length V,.slice none 0 0] from (k60_mkF _ _ (⟨B,([]:List (List Int))⟩:S60) (Kd.R_reads' (Kd.R_mono (ok':=(fun k_=>(w.heap.size ≤ k_))) (E.1) (fun k_ hk=>hk.1))).2.1 (Kd.R_F (Kd.R_mono (ok':=(fun k_=>(w.heap.size ≤ k_))) (E.1) (fun k_ hk=>hk.1))) (Nat.le_refl _) (Kd.F_nil _ _ _))) (Reps.none _ _)));intro a2 w5 L hb hg_ I;clear hg_ I;(first|rw [← Q.1] at L|(simp only [Int.reduceToNat] at L;rw [← Q.1] at L));have R:=mk0 (Kd.N_lower L (below_size G.1));replace G:=bst G hb;clear E;clear hb L));go_ret;exact ⟨_,by first|rfl|(simp [errW_none,errW_some] <;> rfl)|(simp [*,errW_none,errW_some] <;> rfl),by exact R.1,by exact G.1⟩);· rw [if_neg c1] at H;exact absurd H (by simp)
def count_Image_3.f (k:Nat) (l0_0:List (S60)) (a0_1:Bool) (l1_0:List (S60)) (a1_1:Bool):Option ((List (S60)) × Bool):=(count_empty.f).bind fun t176=>((count_sum.f k l0_0 t176).bind fun t179=>((count_empty.f).bind fun t182=>((count_sum.f k l1_0 t182).bind fun t185=>(if t179.length + t185.length < 2932031007402 then ((count_valid.f k (t179 ++ t185) (([(⟨l0_0,a0_1⟩:S102),(⟨l1_0,a1_1⟩:S102)]:List (S102)))).bind fun bt194=>(some (bt194.1,bt194.2))) else (none)))))
theorem count_Image_3.mono:∀ a0 a1 a2 a3 k,LeO (count_Image_3.f k a0 a1 a2 a3) (count_Image_3.f (k + 1) a0 a1 a2 a3):=by intro a0 a1 a2 a3 k;unfold count_Image_3.f;with_reducible repeat' first|exact count_sum.mono _ _ _|exact count_valid.mono _ _ _|exact LeO.refl _|exact LeO.none _|refine LeO.ite ?_ ?_|refine LeO.bind ?_ (fun _=>?_)
theorem C_two102 {w:World} {g:Nat} {A B:Option Addr} {c d:Nat} {l m:List S60} {x y:Bool} (h:w.heap[g]?=some (.cells #[.slice A l.length c,.bool x,.slice B m.length d,.bool y] 102 (0,0))) (hA:Kd.C k60 w A l.length l) (hc:l.length ≤ c) (hB:Kd.C k60 w B m.length m) (hd:m.length ≤ d):Kd.C k102 w (some ⟨g,0,none⟩) ([⟨l,x⟩,⟨m,y⟩]:List S102).length [⟨l,x⟩,⟨m,y⟩]:=by
  refine ⟨rfl,by simp,fun _=>⟨⟨g,0,none⟩,rfl,fun q u hq=>?_⟩⟩
  have e:∀ i,w.cell? ((⟨g,0,none⟩:Addr).add i)=(#[.slice A l.length c,.bool x,.slice B m.length d,.bool y]:Array Value)[i]?:=fun i=>by rw [add_plain,blk_cell h]
  match q,hq with
  | 0,hq =>
    obtain rfl:u=⟨l,x⟩:=by simpa using hq.symm
    refine ⟨_,rfl,k102_mk w ⟨l,x⟩ hc hA,fun a b hab=>?_⟩
    match a,hab with
    | 0,hab=>exact (e _).trans hab
    | 1,hab=>exact (e _).trans hab
  | 1,hq =>
    obtain rfl:u=⟨m,y⟩:=by simpa using hq.symm
    refine ⟨_,rfl,k102_mk w ⟨m,y⟩ hd hB,fun a b hab=>?_⟩
    match a,hab with
    | 0,hab=>exact (e _).trans hab
    | 1,hab=>exact (e _).trans hab
theorem N_al {α:Type} {d:Kd α} {e base:Nat} {ok:Nat → Prop} {W:World} {v:Value} {xs:List α} (h:Kd.N d e W base ok v xs) (o:Obj):Kd.N d e (W.alloc o) base ok v xs:=Kd.N_below h (below_alloc (Below.refl _ _) _)
theorem blk_lit {α:Type} {d:Kd α} {e base g t:Nat} {ok:Nat → Prop} {W w1:World} {v:Value} {xs:List α} {cells:Array Value} (hW:W.heap[g]?=some (.cells cells t (0,0))) (hg:W.grownBy w1 v.ownBlock) (hN:Kd.N d e W base ok v xs) (ht:e ≠ t):w1.heap[g]?=some (.cells cells t (0,0)):=blk_grown hW hg (Kd.N_ne hN hW ht)
set_option maxHeartbeats 4000000 in
set_option maxRecDepth 100000 in
theorem count_Image_3.calls (k:Nat) (G:Nat → Prop) (Z:Option Addr) (a0:Nat) (O:List (S60)) (U:Bool) (I:Nat → Prop) (a1:Option Addr) (a2:Nat) (Q:List (S60)) (X:Bool) (r1:List (S60)) (r2:Bool) (w:World) (j0:Kd.V k60 60 w w.heap.size (fun k_=>G k_) (.slice Z O.length a0) O) (j1:Kd.V k60 60 w w.heap.size (fun k_=>I k_) (.slice a1 Q.length a2) Q) (h:count_Image_3.f k O U Q X=some (r1,r2)) :
    Calls Try.prog 68 #[.agg #[.slice Z O.length a0,.bool U],.agg #[.slice a1 Q.length a2,.bool X]] w fun e w'=>∃ j9:Value,e=.returned (.agg #[j9,.bool r2])∧Kd.V k60 60 w' w.heap.size (fun k_=>((G k_ ∨ I k_) ∨ w.heap.size ≤ k_)) j9 r1∧Below w.heap.size w w':=by
  unfold count_Image_3.f at h
  obtain ⟨t2,ht2,h⟩:=Option.bind_eq_some_iff.mp h
  obtain ⟨s1,hs1,h⟩:=Option.bind_eq_some_iff.mp h
  rw [ht2,Option.bind_some] at h
  obtain ⟨s2,hs2,h⟩:=Option.bind_eq_some_iff.mp h
  by_cases hl:s1.length + s2.length < 2932031007402
  case neg=>rw [if_neg hl] at h;cases h
  rw [if_pos hl] at h
  obtain ⟨⟨v1,v2⟩,hv,h⟩:=Option.bind_eq_some_iff.mp h
  obtain ⟨rfl,rfl⟩:=Prod.mk.inj (Option.some.inj h)
  have o1:=Try.underlying102
  have hc0:=(Kd.V_reads' j0).2.1
  have hc1:=(Kd.V_reads' j1).2.1
  have HEM:Aside0 (∀ W:World,Calls Try.prog 69 #[] W fun e w'=>∃ (A:Option Addr) (c:Nat),e=.returned (.slice A t2.length c)∧t2.length ≤ c∧Kd.C k60 w' A t2.length t2∧Below W.heap.size W w'):=⟨fun W=>by
    refine (count_empty.calls t2 W ht2).mono ?_
    rintro e w' ⟨v,rfl,hN,hb⟩
    obtain ⟨A,c,rfl,h1,h2⟩:=Kd.N_reads hN
    exact ⟨A,c,rfl,h1,h2,hb⟩⟩
  have HSM:Aside0 (∀ (l r:List S60) (A:Option Addr) (c:Nat) (B:Option Addr) (d:Nat) (w0 W:World),Kd.C k60 w A l.length l → l.length ≤ c → count_sum.f k l t2=some r → Below w.heap.size w W → Below w0.heap.size w0 W → Kd.C k60 W B t2.length t2 → t2.length ≤ d → Calls Try.prog 67 #[.slice A l.length c,.slice B t2.length d] W fun e w'=>∃ v:Value,e=.returned v∧Kd.N k60 60 w' w0.heap.size (fun k_=>w0.heap.size ≤ k_) v r∧Below W.heap.size W w'):=⟨fun l r A c B d w0 W hA hc hf hW h0 hB hd=>by
    refine (count_sum.calls k A c l B d t2 r W (Kd.C_below hA hW) hc hB hd hf).mono ?_
    rintro e w' ⟨v,rfl,hN,hb⟩
    exact ⟨v,rfl,Kd.N_mono (Kd.N_lower hN h0.size) (fun k_ hk=>Nat.le_trans h0.size hk),hb⟩⟩
  have HC0:=mk0 (Kd.V_reads' j0).2.2
  have HC1:=mk0 (Kd.V_reads' j1).2.2
  have HL0:=mk0 hc0
  have HL1:=mk0 hc1
  have HF1:=mk0 hs1
  have HF2:=mk0 hs2
  have HLN:=mk0 hl
  have HVA:=mk0 hv
  have HX:=mk0 (Below.refl w.heap.size w)
  clear h hs1 hs2 hl hv ht2 hc0 hc1 j0 j1
  go_enter Try.func68,Try.ntmps68
  go_upto_region 1 with (first
    | ((with_reducible refine gate_dst (N:=2) rfl ?_);refine box_event ?hg (N:=2) ?hd (cs:=#[.slice Z O.length a0,.bool U]) (t:=102) ?hr ?_;(case hd=>rfl);(case hg=>rfl);(case hr=>first|(go_simp;done)|(go_simp;rfl));intro g2 hg w2 hbx hb;replace HX:=mk0 (below_step HX.1 hb);have HB2:=mk0 hbx;have HL2:=mk0 (show w.heap.size ≤ g2 by rw [hg];exact Nat.le_refl _);clear hb hbx hg)
    | ((with_reducible refine gate_dst (N:=3) rfl ?_);refine box_event ?hg (N:=3) ?hd (cs:=#[.slice a1 Q.length a2,.bool X]) (t:=102) ?hr ?_;(case hd=>rfl);(case hg=>rfl);(case hr=>first|(go_simp;done)|(go_simp;rfl));intro g3 hg w3 hbx hb;replace HX:=mk0 (below_step HX.1 hb);replace HB2:=mk0 (blk_below HB2.1 hb);have HB3:=mk0 hbx;clear hb hbx hg)
    | ((with_reducible refine gate_dst (N:=4) rfl ?_);refine box_event ?hg (N:=4) ?hd (cs:=#[.slice none 0 0,.bool false]) (t:=102) ?hr ?_;(case hd=>rfl);(case hg=>rfl);(case hr=>first|(go_simp;done)|(go_simp;rfl));intro g4 hg w4 hbx hb;have HY:=mk0 hb;have HG4:=mk0 (show w3.heap.size ≤ g4 by rw [hg];exact Nat.le_refl _);have HB4:=mk0 hbx;clear hb hbx hg))
  have HW3:=mk0 HX.1
  have HG4L:=mk0 (blk_lt HB4.1)
  have HS:Aside0 (∀ w',Below w3.heap.size w3 w' → w'.cell? ⟨g2,0,none⟩=some (.slice Z O.length a0)∧w'.cell? ⟨g2,1,none⟩=some (.bool U)∧w'.cell? ⟨g3,0,none⟩=some (.slice a1 Q.length a2)∧w'.cell? ⟨g3,1,none⟩=some (.bool X)):=⟨fun w' hb=>⟨(blk_cell (blk_below HB2.1 hb) 0).trans rfl,(blk_cell (blk_below HB2.1 hb) 1).trans rfl,(blk_cell (blk_below HB3.1 hb) 0).trans rfl,(blk_cell (blk_below HB3.1 hb) 1).trans rfl⟩⟩
  have HX:=mk0 (Below.refl w4.heap.size w4)
  obtain ⟨L,hL⟩:∃ L,L=s1 ++ s2:=⟨_,rfl⟩
  rw [← hL] at HVA
  have HLL:=mk0 hL
  clear hL
  have HVC:Aside0 (∀ (A:Option Addr) (c g:Nat) (W:World),Below w4.heap.size w4 W → Kd.N k60 60 W w4.heap.size (fun k_=>w4.heap.size ≤ k_) (.slice A L.length c) L → W.heap[g]?=some (.cells #[.slice Z O.length a0,.bool U,.slice a1 Q.length a2,.bool X] 102 (0,0)) → Calls Try.prog 66 #[.slice A L.length c,.slice (some ⟨g,0,none⟩) 2 2] W fun e w'=>∃ (B:Option Addr) (d:Nat),e=.returned (.agg #[.slice B v1.length d,.bool v2])∧v1.length ≤ d∧Kd.F k60 w' (fun k_=>w4.heap.size ≤ k_) B v1.length v1∧w'.heap[g4]?=some (.cells #[.slice none 0 0,.bool false] 102 (0,0))∧Below w4.heap.size w4 w'):=⟨fun A c g W hW hN hg=>by
    have hB:=below_step HW3.1 (below_step HY.1 hW)
    refine (count_valid.calls k (fun k_=>w4.heap.size ≤ k_) A c L (some ⟨g,0,none⟩) 2 [⟨O,U⟩,⟨Q,X⟩] v1 v2 W (Kd.N_V hN) (C_two102 hg (Kd.C_below HC0.1 hB) HL0.1 (Kd.C_below HC1.1 hB) HL1.1) (Nat.le_refl _) HVA.1).mono ?_
    rintro e w' ⟨e8,rfl,hV,hb⟩
    obtain ⟨B,d,rfl,hl,hF⟩:=hV
    exact ⟨B,d,rfl,hl,Kd.F_mono hF (fun k_ hk=>by have:=hW.size;omega),blk_below (blk_below HB4.1 hW) hb,below_step hW hb⟩⟩
  go_region_held3 (fun w'=>w'.cell? ⟨g2,0,none⟩=some (.slice Z O.length a0)∧w'.cell? ⟨g2,1,none⟩=some (.bool U)∧w'.cell? ⟨g3,0,none⟩=some (.slice a1 Q.length a2)∧w'.cell? ⟨g3,1,none⟩=some (.bool X))
    (exact HS.1 _ (by with_reducible repeat (first|exact below_step HY.1 HX.1|refine below_set ?_ HG4.1|apply below_alloc|apply Below.drew)))
    (first
      | (go_at_call 69;(with_reducible refine (HEM.1 _).mono ?_);rintro e we ⟨A,c,rfl,hl,hC,hb⟩;have HE:=mk0 hC;have HEL:=mk0 hl;(try replace HN1:=mk0 (Kd.N_below (d:=k60) (e:=60) (base:=w4.heap.size) (ok:=fun k_=>w4.heap.size ≤ k_) (v:=v5) (xs:=s1) (by with_reducible repeat (first|exact HN1.1|refine N_al ?_ _|refine Kd.N_drew ?_)) hb));(try replace HX1:=mk0 (below_step (by with_reducible repeat (first|exact HX1.1|apply below_alloc|apply Below.drew)) hb));replace HX:=mk0 (below_step (by with_reducible repeat (first|exact HX.1|apply below_alloc|apply Below.drew)) hb);(first|(with_reducible replace HBK:=mk0 (blk_below HBK.1 hb))|(with_reducible replace HBK:=mk0 (blk_below (blk_below HBK.1 (below_alloc (Below.refl _ _) _)) hb))|have HBK:=mk0 (blk_below (o:=.cells #[.slice Z O.length a0,.bool U,.slice a1 Q.length a2,.bool X] 102 (0,0)) (by first|with_reducible exact blk_new _ _|with_reducible exact new_drew _ _) hb)|skip);clear hb hC hl)
      | (go_at_call 67;(with_reducible refine (HSM.1 O s1 Z a0 A c w4 _ HC0.1 HL0.1 HF1.1 ?b ?d ?c HEL.1).mono ?_);(case b=>exact below_step (below_step HW3.1 HY.1) (by with_reducible repeat (first|exact HX.1|apply below_alloc|apply Below.drew)));(case d=>with_reducible repeat (first|exact HX.1|apply below_alloc|apply Below.drew));(case c=>with_reducible repeat (first|exact HE.1|refine Kd.C_alloc ?_ _|refine Kd.C_drew ?_));rintro e w5 ⟨v5,rfl,hN,hb⟩;replace HX:=mk0 (below_step (by with_reducible repeat (first|exact HX.1|apply below_alloc|apply Below.drew)) hb);(first|(with_reducible replace HBK:=mk0 (blk_below HBK.1 hb))|(with_reducible replace HBK:=mk0 (blk_below (blk_below HBK.1 (below_alloc (Below.refl _ _) _)) hb))|have HBK:=mk0 (blk_below (o:=.cells #[.slice Z O.length a0,.bool U,.slice a1 Q.length a2,.bool X] 102 (0,0)) (by first|with_reducible exact blk_new _ _|with_reducible exact new_drew _ _) hb)|skip);have HN1:=mk0 hN;have HLT:=mk0 (Kd.N_lt hN);have HX1:=mk0 (Below.refl w5.heap.size w5);have HS5:=mk0 HX.1.size;clear hb hN)
      | (go_at_call 67;(with_reducible refine (HSM.1 Q s2 a1 a2 A c w5 _ HC1.1 HL1.1 HF2.1 ?b ?d ?c HEL.1).mono ?_);(case b=>exact below_step (below_step HW3.1 HY.1) (by with_reducible repeat (first|exact HX.1|apply below_alloc|apply Below.drew)));(case d=>with_reducible repeat (first|exact HX1.1|apply below_alloc|apply Below.drew));(case c=>with_reducible repeat (first|exact HE.1|refine Kd.C_alloc ?_ _|refine Kd.C_drew ?_));rintro e w6 ⟨v6,rfl,hN,hb⟩;(try replace HN1:=mk0 (Kd.N_below (d:=k60) (e:=60) (base:=w4.heap.size) (ok:=fun k_=>w4.heap.size ≤ k_) (v:=v5) (xs:=s1) (by with_reducible repeat (first|exact HN1.1|refine N_al ?_ _|refine Kd.N_drew ?_)) hb));(try replace HX1:=mk0 (below_step (by with_reducible repeat (first|exact HX1.1|apply below_alloc|apply Below.drew)) hb));replace HX:=mk0 (below_step (by with_reducible repeat (first|exact HX.1|apply below_alloc|apply Below.drew)) hb);(first|(with_reducible replace HBK:=mk0 (blk_below HBK.1 hb))|(with_reducible replace HBK:=mk0 (blk_below (blk_below HBK.1 (below_alloc (Below.refl _ _) _)) hb))|have HBK:=mk0 (blk_below (o:=.cells #[.slice Z O.length a0,.bool U,.slice a1 Q.length a2,.bool X] 102 (0,0)) (by first|with_reducible exact blk_new _ _|with_reducible exact new_drew _ _) hb)|skip);obtain ⟨A6,c6,rfl⟩:=Kd.N_slice hN;have HN2:=mk0 hN;clear hb hN)
      | (go_at_call 66;(with_reducible refine (HVC.1 A7 c7 _ _ ?b ?c ?g).mono ?_);(case b=>with_reducible repeat (first|exact HX.1|apply below_alloc|apply Below.drew));(case c=>with_reducible repeat (first|exact HN3.1|refine N_al ?_ _|refine Kd.N_drew ?_));(case g=>first|with_reducible exact HBK.1|with_reducible exact blk_new _ _|with_reducible exact new_drew _ _);rintro e w8 ⟨B,d,rfl,hl,hF,h4,hb⟩;replace HX:=mk0 hb;have HFV:=mk0 hF;have HFL:=mk0 hl;have HB5:=mk0 h4;have hz0:w8.cell? ⟨g4,0,none⟩=some (.slice none 0 0):=(blk_cell h4 0).trans rfl;have hz1:w8.cell? ⟨g4,1,none⟩=some (.bool false):=(blk_cell h4 1).trans rfl;have hf0:=blk_frozen h4 0;have hf1:=blk_frozen h4 1;clear hb hF hl h4)
      | (refine Kd.N_append_rows_step k60 (w0:=w4) w4.heap.size (by rfl) (.tmp 8) (.tmp 12) 22 60 (.agg #[.slice none 0 0,.slice none 0 0]) 48 (by rfl) Try.underlying22 info60 rfl (by decide) (by omega) v5 s1 s2 A6 s2.length c6 (fun k_=>w4.heap.size ≤ k_) (fun k_=>w5.heap.size ≤ k_) (by rfl) (by rfl) ?n1 ?f2 (fun k_ hk=>⟨Nat.le_trans HS5.1 hk,fun he=>by have:=HLT.1 k_ he.symm;omega⟩) ?fr ?b ?sz (by have:=HLN.1;omega) ?_;(case n1=>with_reducible repeat (first|exact HN1.1|refine N_al ?_ _|refine Kd.N_drew ?_));(case f2=>exact Kd.F_below (Kd.N_F HN2.1) (by repeat (first|exact Below.refl _ _|apply below_alloc|apply Below.drew)));(case b=>with_reducible repeat (first|exact HX.1|apply below_alloc|apply Below.drew));(case fr=>exact fun k_ hk=>Nat.le_trans (Below.size (w:=w4) (by with_reducible repeat (first|exact HX.1|apply below_alloc|apply Below.drew))) hk);(case sz=>exact Below.size (w:=w4) (by with_reducible repeat (first|exact HX.1|apply below_alloc|apply Below.drew)));intro v7 w7 hN7 hb7 hg7 _;rw [← HLL.1] at hN7;obtain ⟨A7,c7,rfl⟩:=Kd.N_slice hN7;have HN3:=mk0 hN7;replace HX:=mk0 hb7;(first|(have HBK:=mk0 (blk_lit (d:=k60) (e:=60) (base:=w4.heap.size) (ok:=fun k_=>w4.heap.size ≤ k_) (xs:=s1) (t:=102) (cells:=#[.slice Z O.length a0,.bool U,.slice a1 Q.length a2,.bool X]) (by first|with_reducible exact HBK.1|with_reducible exact blk_new _ _|with_reducible exact new_drew _ _|with_reducible exact blk_below HBK.1 (below_alloc (Below.refl _ _) _)) hg7 (by with_reducible repeat (first|exact HN1.1|refine N_al ?_ _|refine Kd.N_drew ?_)) (by decide)))|skip);clear hN7 hb7 hg7)
      | fail)
  all_goals
    go_wp2
    refine bodyPost_ret (results_cell_row rfl _ _ g4 102 #[.slice B v1.length d,.bool v2] (0,0) _ rfl (by refine blk_put (cs:=#[.slice B v1.length d,.bool false]) ?_ 1 _ rfl;refine blk_put (cs:=#[.slice none 0 0,.bool false]) ?_ 0 _ rfl;exact HB5.1) Try.underlying102 rfl (by kernel_rfl)) rfl ?_
    exact ⟨_,rfl,Kd.V_mk HFL.1 (Kd.F_far (p:=⟨g4,1,none⟩) (Kd.F_far (p:=⟨g4,0,none⟩) (Kd.F_mono (ok':=fun k_=>((G k_ ∨ I k_) ∨ w.heap.size ≤ k_)∧k_ ≠ g4) HFV.1 (fun k_ hk=>⟨.inr (Nat.le_trans (below_step HW3.1 HY.1).size hk),by have:=HG4L.1;omega⟩)) (fun _ hk=>hk.2) (.slice B v1.length d)) (fun _ hk=>hk.2) (.bool v2) |> fun h=>Kd.F_mono h (fun _ hk=>hk.1)),below_set (below_set (below_step (below_step HW3.1 HY.1) HX.1) (Nat.le_trans HW3.1.size HG4.1)) (Nat.le_trans HW3.1.size HG4.1)⟩

end Go.Proofs.Ytkonljiembcdlaa.PC
