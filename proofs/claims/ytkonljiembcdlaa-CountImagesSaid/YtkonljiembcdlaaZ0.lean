import Derived.Test.YtkonljiembcdlaaPCx0
import Derived.Test.YtkonljiembcdlaaMyTiny
import Derived.Test.YtkonljiembcdlaaPCx3
import Derived.Test.YtkonljiembcdlaaPCx4
import Derived.Test.YtkonljiembcdlaaPCx5
import Derived.Test.YtkonljiembcdlaaPCx1
import Derived.Test.YtkonljiembcdlaaPCx2
import Derived.Test.YtkonljiembcdlaaWMore
namespace Go.Proofs.Ytkonljiembcdlaa.PC
open Go.Proofs.MyWords Go.RowKit Go.Proofs.YtkonljiembcdlaaW.PrintWords Go.Proofs.YtkonljiembcdlaaW.PrintLast Go.Proofs.YtkonljiembcdlaaW.PrintMore
attribute [local go_sem] max2_int min2_int max_two min_two max_three min_three max_four min_four   -- for this text's walks alone
set_option linter.unusedVariables false
set_option linter.unusedSimpArgs false
attribute [local go_sem] eqGuard_slices eqlnil23 neqnil23 eqlnil58 neqnil58
def bellpullref05_Plus.l0:Nat → List Int → List Int → List Int → Int → Option (List Int)
  | 0,_,_,_,_=>none
  | k + 1,x0,x1,x5,x6=>if x6 < (x0.length:Int) then (if 0 ≤ x6 then (if x6 < (x1.length:Int) then (if x5.length < 17592186044416 then (bellpullref05_Plus.l0 k x0 x1 (x5 ++ [wrap64 ((rd x0 x6) + (rd x1 x6))]) (wrap64 (x6 + 1))) else (none)) else (none)) else (none)) else (some x5)
def bellpullref05_Plus.f (k:Nat) (l0:List Int) (l1:List Int):Option (List Int):=bellpullref05_Plus.l0 k l0 l1 (([]:List Int)) 0
def bellpullref05_Plus.T5:Bool × List (List Nat × List Nat):=(true,[([],[]),([],[]),([],[]),([1,2],[1,2]),([3],[3]),([],[]),([],[]),([5,6],[5,6]),([7],[7]),([4,8],[4,8]),([9],[9]),([0,10],[0,10]),([11,11,0,1,2,3,4,5,6,7,8,9,10,11],[0,11])])
def bellpullref05_Plus.B5:List Nat:=[0,0,0,6,14,0,0,96,224,510,1022,2047,4095]
theorem bellpullref05_Plus.tab5:rtab .any (opsOf Try.f34 5)=bellpullref05_Plus.T5:=by kernel_rfl
theorem bellpullref05_Plus.bits5:waitsOk bellpullref05_Plus.T5.2 bellpullref05_Plus.B5=true:=by kernel_rfl
set_option maxHeartbeats 8000000 in
set_option maxRecDepth 100000 in
theorem bellpullref05_Plus.calls (k:Nat) (A0:Option Addr) (c0:Nat) (L:List Int) (A1:Option Addr) (c1:Nat) (M:List Int) (r:List Int) (w:World) (b3:Kd.C (Kd.int .i64) w A0 L.length L) (b4:L.length ≤ c0) (b5:Kd.C (Kd.int .i64) w A1 M.length M) (b6:M.length ≤ c1) (h:bellpullref05_Plus.f k L M=some r) :
    Calls Try.prog 34 #[.slice A0 L.length c0,.slice A1 M.length c1] w fun e w'=>∃ b7:Value,e=.returned (b7)∧Kd.R (Kd.int .i64) 3 w' w.heap.size (fun _=>True) b7 r∧Below w.heap.size w w':=by
 have d4:=mk0 b3;have e2:=mk0 b4;clear b3 b4;have d5:=mk0 b5;have e3:=mk0 b6;clear b5 b6;have F:=mk0 (Below.refl w.heap.size w);have H:(bellpullref05_Plus.l0 k L M (([]:List Int)) 0)=some r:=h;clear h;obtain ⟨a4,O⟩:∃ y_:List Int,y_=(([]:List Int)):=⟨_,rfl⟩;(replace H:(bellpullref05_Plus.l0 k L M a4 0)=some r:=by first|(rw [O];with_reducible exact H)|(have X:=(Option.bind_some _ _).symm.trans H;rw [O];with_reducible exact X)|(have X:=(Option.bind_some _ _).symm.trans H;with_reducible exact X)|with_reducible exact H|(rw [O];exact H)|exact H);have a3:=mk0 O;clear O;have H':=mk0 H;clear H;go_enter Try.func34,Try.ntmps34;go_wp2_with (first|((with_reducible refine gate_dst (N:=7) rfl ?_);refine Kd.R_lit (Kd.int .i64) _ 3 ?hg (N:=7) ?hd (xs:=([]:List Int)) (inner:=[]) (ok:=fun _=>True) (okp:=fun _=>True) ?hr ?hp (fun _ hk=>hk) trivial (Below.refl _ _) (Nat.le_refl _) (by simp) ?_;(case hd=>rfl);(case hg=>rfl);(case hr=>first|(go_simp;done)|(go_simp;rfl));(case hp=>exact (Reps.none _ _));intro d6 w3 Y hb hg_ a7;clear hg_ a7;(first|rw [← a3.1] at Y|(simp only [Int.reduceToNat] at Y;rw [← a3.1] at Y));have a8:=mk0 (Kd.R_lower Y (below_size F.1));replace F:=bst F hb;clear hb Y));go_loopg [5,6] k (fun kq v5 v6 w'=>∃ (U:List Int) (B:Int),v6=.int .i64 B∧Aside0 (bellpullref05_Plus.l0 kq L M U B=some r)∧Aside0 (kq ≤ k)∧Aside0 (Kd.R (Kd.int .i64) 3 w' w.heap.size (fun _=>True) v5 U)∧Aside0 (Below w.heap.size w w'));case atStart=>exact ⟨(a4),(0),(by first|rfl|(simp;done)|(simp [*];done)),H',⟨Nat.le_refl _⟩,⟨by exact a8.1⟩,⟨by exact F.1⟩⟩
 case round =>
  (clear H';try clear c1);(try clear p2);try clear c3
  obtain ⟨U,B,rfl,HA,b8,V,F⟩:=hrel;cases gk with
  | zero=>exact absurd HA.1 (by simp [bellpullref05_Plus.l0])
  | succ k1 =>have H:=HA.1;clear HA;simp only [bellpullref05_Plus.l0] at H;by_cases c5:B < (L.length:Int);(· rw [if_pos c5] at H;have c5b0:decide (B < (L.length:Int))=true:=decide_eq_true c5;clear c5;by_cases c6:0 ≤ B;(· rw [if_pos c6] at H;have c6b0:decide (0 ≤ B)=true:=decide_eq_true c6;clear c6;by_cases c7:B < (M.length:Int);(· rw [if_pos c7] at H;have c7b0:decide (B < (M.length:Int))=true:=decide_eq_true c7;clear c7;by_cases c8:U.length < 17592186044416;(· rw [if_pos c8] at H;have c4:=mk0 c8;clear c8;obtain ⟨a5,Q⟩:∃ y_:List Int,y_=(U ++ [wrap64 ((rd L B) + (rd M B))]):=⟨_,rfl⟩;(replace H:(bellpullref05_Plus.l0 k1 L M a5 (wrap64 (B + 1)))=some r:=by first|(rw [Q];with_reducible exact H)|(have X:=(Option.bind_some _ _).symm.trans H;rw [Q];with_reducible exact X)|(have X:=(Option.bind_some _ _).symm.trans H;with_reducible exact X)|with_reducible exact H|(rw [Q];exact H)|exact H);(have a9:=mk0 Q;clear Q;have H':=mk0 H;clear H;try go_wp2);replace V:=rdr V;replace F:=hdr F;have Z:0 ≤ (B:Int):=of_decide_eq_true (by assumption);have a0:B < (L.length:Int):=of_decide_eq_true (by assumption);obtain ⟨b0,c9,I⟩:=Kd.at_int d4.1 B Z a0;have D:=I;cases c9;replace I:=bd_ F I;replace Z:=eq_true Z;replace a0:=eq_true a0;have a1:0 ≤ (B:Int):=of_decide_eq_true (by assumption);have a2:B < (M.length:Int):=of_decide_eq_true (by assumption);obtain ⟨b1,d0,J⟩:=Kd.at_int d5.1 B a1 a2;have E:=J;cases d0;replace J:=bd_ F J;replace a1:=eq_true a1;replace a2:=eq_true a2;refine start_ (n:=13) (S:=fun w'=>w'.cell? (b0.add (B).toNat)=some (.int .i64 (rd L B))∧w'.cell? (b1.add (B).toNat)=some (.int .i64 (rd M B))) (ds:=[]) #[n_,n_,n_,n_,n_,n_,n_,n_,n_,n_,n_,n_,n_] (by kernel_rfl) rfl rfl ⟨(bd_ F D),(bd_ F E)⟩ (fun T=>?_);refine with_tabW bellpullref05_Plus.tab5 bellpullref05_Plus.bits5 (fun G b9=>?_);generalize wr.drew=w9 at V F I J T ⊢;refine pure_ (i:=0) (N:=some 14) (v:=?_) (a':=?_) #[y_,n_,n_,n_,n_,n_,n_,n_,n_,n_,n_,n_,n_] rfl rfl (any_of G.1 (by kernel_rfl)) (fun _ _ _ h=>h) (Or.inl ⟨by rfl,?_⟩) ?_ ?_;rotate_left;(· intro w';go_simp;with_reducible rfl);rotate_left;(· simp only [Act.put,s0_,s1_,s2_,i64_w,i32_w];rfl);refine pure_ (i:=1) (N:=some 15) (v:=?_) (a':=?_) #[y_,y_,n_,n_,n_,n_,n_,n_,n_,n_,n_,n_,n_] rfl rfl (any_of G.1 (by kernel_rfl)) (fun _ _ _ h=>h) (Or.inl ⟨by rfl,?_⟩) ?_ ?_;rotate_left;(· intro w';go_simp;with_reducible rfl);rotate_left;(· simp only [Act.put,s0_,s1_,s2_,i64_w,i32_w];rfl);refine pure_ (i:=2) (N:=some 16) (v:=?_) (a':=?_) #[y_,y_,y_,n_,n_,n_,n_,n_,n_,n_,n_,n_,n_] rfl rfl (any_of G.1 (by kernel_rfl)) (fun _ _ _ h=>h) (Or.inl ⟨by rfl,?_⟩) ?_ ?_;rotate_left;(· intro w';go_simp;with_reducible rfl);rotate_left;(· simp only [Act.put,s0_,s1_,s2_,i64_w,i32_w];rfl);refine pure_ (i:=3) (N:=some 17) (v:=?_) (a':=?_) #[y_,y_,y_,y_,n_,n_,n_,n_,n_,n_,n_,n_,n_] rfl rfl (any_of G.1 (by kernel_rfl)) (fun _ _ _ h=>h) (Or.inl ⟨by rfl,?_⟩) ?_ ?_;rotate_left;(· intro w';go_simp;with_reducible rfl);rotate_left;(· simp only [Act.put,s0_,s1_,s2_,i64_w,i32_w];rfl);refine pure_ (i:=5) (N:=some 19) (v:=?_) (a':=?_) #[y_,y_,y_,y_,n_,y_,n_,n_,n_,n_,n_,n_,n_] rfl rfl (any_of G.1 (by kernel_rfl)) (fun _ _ _ h=>h) (Or.inl ⟨by rfl,?_⟩) ?_ ?_;rotate_left;(· intro w';go_simp;with_reducible rfl);rotate_left;(· simp only [Act.put,s0_,s1_,s2_,i64_w,i32_w];rfl);refine pure_ (i:=6) (N:=some 20) (v:=?_) (a':=?_) #[y_,y_,y_,y_,n_,y_,y_,n_,n_,n_,n_,n_,n_] rfl rfl (any_of G.1 (by kernel_rfl)) (fun _ _ _ h=>h) (Or.inl ⟨by rfl,?_⟩) ?_ ?_;rotate_left;(· intro w';go_simp;with_reducible rfl);rotate_left;(· simp only [Act.put,s0_,s1_,s2_,i64_w,i32_w];rfl);refine pure_ (i:=7) (N:=some 21) (v:=?_) (a':=?_) #[y_,y_,y_,y_,n_,y_,y_,y_,n_,n_,n_,n_,n_] rfl rfl (any_of G.1 (by kernel_rfl)) (fun _ _ _ h=>h) (Or.inl ⟨by rfl,?_⟩) ?_ ?_;rotate_left;(· intro w';go_simp;with_reducible rfl);rotate_left;(· simp only [Act.put,s0_,s1_,s2_,i64_w,i32_w];rfl);refine take_ (i:=4) (N:=some 18) (v:=?_) (a':=?_) #[y_,y_,y_,y_,y_,y_,y_,y_,n_,n_,n_,n_,n_] rfl rfl (take_ofW G.1 b9.1 (by kernel_rfl)) (fun _ _ _ h=>h) (Or.inl ⟨by rfl,?_⟩) T ?_ ?_;rotate_left;(· rintro w' ⟨s0,s1⟩;go_simp;with_reducible rfl);rotate_left;(· simp only [Act.put,s0_,s1_,s2_,i64_w,i32_w];rfl);refine take_ (i:=8) (N:=some 22) (v:=?_) (a':=?_) #[y_,y_,y_,y_,y_,y_,y_,y_,y_,n_,n_,n_,n_] rfl rfl (take_ofW G.1 b9.1 (by kernel_rfl)) (fun _ _ _ h=>h) (Or.inl ⟨by rfl,?_⟩) T ?_ ?_;rotate_left;(· rintro w' ⟨s0,s1⟩;go_simp;with_reducible rfl);rotate_left;(· simp only [Act.put,s0_,s1_,s2_,i64_w,i32_w];rfl);refine pure_ (i:=9) (N:=some 23) (v:=?_) (a':=?_) #[y_,y_,y_,y_,y_,y_,y_,y_,y_,y_,n_,n_,n_] rfl rfl (any_of G.1 (by kernel_rfl)) (fun _ _ _ h=>h) (Or.inl ⟨by rfl,?_⟩) ?_ ?_;rotate_left;(· intro w';go_simp;with_reducible rfl);rotate_left;(· simp only [Act.put,s0_,s1_,s2_,i64_w,i32_w];rfl);refine one_ (i:=10) (N:=some 24) #[y_,y_,y_,y_,y_,y_,y_,y_,y_,y_,y_,n_,n_] rfl rfl (one_of G.1 (by kernel_rfl)) (by decide) (fun K hK=>?_);refine value_ (w1:=?_) (v:=?_) (by rfl) rfl ?_ ?_;rotate_left 2;(· go_simp;constructor;(· rfl);· rfl);refine hK.out _ _ ⟨(World.cell?_alloc_lt _ _ _ (World.block_lt_of_cell? _ _ ((bd_ F D)))).trans ((bd_ F D)),(World.cell?_alloc_lt _ _ _ (World.block_lt_of_cell? _ _ ((bd_ F E)))).trans ((bd_ F E))⟩ (fun T=>?_);clear hK K;refine norm_ (a':=?_) ?_ ?_;rotate_left;(· show Act.put _ (some 24) _=_;simp only [Act.put,s0_,s1_,s2_,i64_w,i32_w];rfl);refine one_ (i:=11) (N:=some 25) #[y_,y_,y_,y_,y_,y_,y_,y_,y_,y_,y_,y_,n_] rfl rfl (one_of G.1 (by kernel_rfl)) (by decide) (fun K hK=>?_);refine Kd.R_append_step (Kd.int .i64) (w0:=w) w.heap.size (by rfl) (.tmp 14) (.tmp 24) 23 3 (.int .i64 0) 8 rfl Try.underlying23 info3 rfl (by decide) (by omega) u5 U (wrap64 ((rd L B) + (rd M B))) [.int .i64 (wrap64 ((rd L B) + (rd M B)))] (fun _=>True) (fun _=>False) rfl rfl ?aP (fun _ hk=>hk.elim) ?aF ?aO ?aB ?aS ?aL ?_;(case aP=>exact rfl);(case aB=>exact F.1);(case aF=>exact (fun _ _=>trivial));(case aO=>exact V.1);(case aS=>exact (below_size F.1));(case aL=>have:=c4.1;omega);intro e1 e4 ho hb hg hat;rw [← a9.1] at ho;have b2:=mk0 (ho);replace F:=mk0 (hb);clear V;clear ho hb hg hat;refine hK.out _ _ ⟨(bd_ F D),(bd_ F E)⟩ (fun T=>?_);clear hK K;refine norm_ (a':=?_) ?_ ?_;rotate_left;(· show Act.put _ (some 25) _=_;simp only [Act.put,s0_,s1_,s2_,i64_w,i32_w];rfl);refine pure_ (i:=12) (N:=some 5) (v:=?_) (a':=?_) #[y_,y_,y_,y_,y_,y_,y_,y_,y_,y_,y_,y_,y_] rfl rfl (any_of G.1 (by kernel_rfl)) (fun _ _ _ h=>h) (Or.inl ⟨by rfl,?_⟩) ?_ ?_;rotate_left;(· intro w';go_simp;with_reducible rfl);rotate_left;(· simp only [Act.put,s0_,s1_,s2_,i64_w,i32_w];rfl);(refine done_ (done_of G.1 (by kernel_rfl)) ?_;try go_wp2);go_roundg k1;(case measure=>have:=b8.1;omega);case rel=>exact ⟨(a5),(wrap64 (B + 1)),(by first|rfl|(simp;done)|(simp [*];done)),H',⟨by have:=b8.1;omega⟩,⟨by exact b2.1⟩,⟨by exact F.1⟩⟩);· rw [if_neg c8] at H;exact absurd H (by simp));· rw [if_neg c7] at H;exact absurd H (by simp));· rw [if_neg c6] at H;exact absurd H (by simp));· rw [if_neg c5] at H;have c5b0:decide (B < (L.length:Int))=false:=decide_eq_false c5;clear c5;obtain rfl:=Option.some.inj H;go_wp2;go_ret;exact ⟨_,by first|rfl|(simp [errW_none,errW_some] <;> rfl)|(simp [*,errW_none,errW_some] <;> rfl),by exact V.1,by exact F.1⟩
end Go.Proofs.Ytkonljiembcdlaa.PC
namespace Go.Proofs.Ytkonljiembcdlaa.PC
open Go.Proofs.MyWords Go.RowKit Go.Proofs.YtkonljiembcdlaaW.PrintWords Go.Proofs.YtkonljiembcdlaaW.PrintLast Go.Proofs.YtkonljiembcdlaaW.PrintMore
set_option linter.unusedVariables false
set_option linter.unusedSimpArgs false
namespace pr
section
variable (el:S60 → S60 → Option S60)
def row (a:S60):List S60 → Option (List S60)
  | []=>some []
  | b :: r=>(el a b).bind fun e=>(row a r).bind fun s=>some (e :: s)
def g (y:List S60):List S60 → Option (List S60)
  | []=>some []
  | a :: r=>(row el a y).bind fun s=>(g y r).bind fun t=>some (s ++ t)
def v (a b:S60):S60:=(el a b).getD z60
theorem row_some {a:S60}:∀ {l r:List S60},row el a l=some r → r=l.map (v el a)∧∀ b ∈ l,el a b=some (v el a b)
  | [],r,h=>⟨(Option.some.inj h).symm,fun b hb=>by simp at hb⟩
  | b :: l,r,h=>by
    obtain ⟨e,he,h⟩:=Option.bind_eq_some_iff.mp h
    obtain ⟨s,hs,h⟩:=Option.bind_eq_some_iff.mp h
    obtain rfl:=Option.some.inj h
    obtain ⟨h1,h2⟩:=row_some hs
    have hv:v el a b=e:=by unfold v;rw [he];rfl
    refine ⟨by rw [List.map_cons,hv,← h1],fun c hc=>?_⟩
    rcases List.mem_cons.mp hc with rfl|hc
    · rw [hv];exact he
    · exact h2 c hc
theorem g_some {y:List S60}:∀ {l r:List S60},g el y l=some r → r=l.flatMap (fun a=>y.map (v el a))∧∀ a ∈ l,∀ b ∈ y,el a b=some (v el a b)
  | [],r,h=>⟨(Option.some.inj h).symm,fun b hb=>by simp at hb⟩
  | a :: l,r,h=>by
    obtain ⟨s,hs,h⟩:=Option.bind_eq_some_iff.mp h
    obtain ⟨t,ht,h⟩:=Option.bind_eq_some_iff.mp h
    obtain rfl:=Option.some.inj h
    obtain ⟨h1,h2⟩:=row_some el hs
    obtain ⟨h3,h4⟩:=g_some ht
    refine ⟨by rw [List.flatMap_cons,← h1,← h3],fun c hc=>?_⟩
    rcases List.mem_cons.mp hc with rfl|hc
    · exact h2
    · exact h4 c hc
def at' (x y:List S60) (i j:Nat):List S60:=(x.take i).flatMap (fun a=>y.map (v el a)) ++ (y.take j).map (v el (x.getD i z60))
theorem at_row (x y:List S60) (i:Nat) (hi:i < x.length):at' el x y i y.length=at' el x y (i + 1) 0:=by
  unfold at'
  rw [List.take_length,List.take_add_one,List.flatMap_append,List.getD_eq_getElem?_getD,List.getElem?_eq_getElem hi]
  simp
theorem at_succ (x y:List S60) (i j:Nat) (hj:j < y.length):at' el x y i (j + 1)=at' el x y i j ++ [v el (x.getD i z60) (y.getD j z60)]:=by
  unfold at'
  rw [List.take_add_one,List.map_append,← List.append_assoc,List.getD_eq_getElem?_getD (l:=y),List.getElem?_eq_getElem hj]
  simp
theorem at_len (x y:List S60) (i j:Nat) (hx:x.length ≤ 5000) (hy:y.length ≤ 5000):(at' el x y i j).length ≤ 25005000:=by
  unfold at'
  have h1:∀ l:List S60,(l.flatMap (fun a=>y.map (v el a))).length=l.length * y.length:=fun l=>by
    induction l with
    | nil=>simp
    | cons a l ih=>rw [List.flatMap_cons,List.length_append,ih,List.length_map,List.length_cons,Nat.succ_mul];omega
  rw [List.length_append,h1,List.length_map,List.length_take,List.length_take]
  have:min i x.length * y.length ≤ 5000 * 5000:=Nat.mul_le_mul (by omega) hy
  omega
end
end pr
def refSum.el (k:Nat) (a b:S60):Option S60:=(bellpullref05_Plus.f k a.f0 b.f0).bind fun p=>if a.f1.length ≤ 1000000∧b.f1.length ≤ 1000000 then some ⟨p,a.f1 ++ b.f1⟩ else none
def bellpullref05_Sum.f (k:Nat) (x y:List S60):Option (List S60):=if x.length ≤ 5000∧y.length ≤ 5000 then pr.g (refSum.el k) y x else none
theorem at_F60 {w:World} {ok:Nat → Prop} {A:Option Addr} {n:Nat} {xs:List S60} (h:Kd.F k60 w ok A n xs) (i:Int) (h0:0 ≤ i) (h1:i < n):∃ ad A0 c0 A1 c1,A=some ad∧w.cell? (ad.add (i.toNat * 2))=some (.slice A0 (rd_T60 xs i).f0.length c0)∧w.cell? ⟨(ad.add (i.toNat * 2)).block,(ad.add (i.toNat * 2)).off + 1,none⟩=some (.slice A1 (rd_T60 xs i).f1.length c1)∧(rd_T60 xs i).f0.length ≤ c0∧Kd.F (Kd.int .i64) w ok A0 (rd_T60 xs i).f0.length (rd_T60 xs i).f0∧(rd_T60 xs i).f1.length ≤ c1∧Kd.F (Kd.slice 3 (Kd.int .i64)) w ok A1 (rd_T60 xs i).f1.length (rd_T60 xs i).f1:=by
  obtain ⟨ad,c,e,_,hK,hc0,_⟩:=Kd.F_get h z60 i h0 h1
  have hc:∀ j u,c[j]?=some u → w.cell? (ad.add (i.toNat * 2 + j))=some u:=hc0
  obtain ⟨A0,c0,A1,c1,rfl,l0,g0,l1,g1⟩:=k60_openF hK
  exact ⟨ad,A0,c0,A1,c1,e,hc 0 _ rfl,by rw [← add_field _ _ 1 (by omega)];exact hc 1 _ rfl,l0,g0,l1,g1⟩
theorem N_empty {α:Type} (d:Kd α) {e base g:Nat} {ok:Nat → Prop} {W:World} (h:W.heap[g]?=some (.cells #[] e (0,0))) (hb:base ≤ g) (ho:ok g):Kd.N d e W base ok (.slice (some ⟨g,0,none⟩) 0 0) []:=by
  refine Kd.R_N ⟨fun k hk=>?_,[],⟨by simp,.inr ⟨g,0,#[],rfl,hb,h,?_⟩⟩,Reps.none _ _⟩
  · have:g=k:=by simpa [Value.ownBlock] using hk
    rw [← this];exact ho
  · simp
section
variable {ops:Array Oper} {o:Oper} {a:Act} {w W0 W:World} {Q:Exit → Act → World → Prop} {Kc:Act → World → Prop} {J:Nat → Prop} {s z:Operand}
theorem rows_step {v:Value} {l m L:List (List Int)} {Ab:Option Addr} {cb:Nat}
    (ho:o.op=.call { callee:=.builtin .append,args:=#[s,z],argTypes:=#[58,58] }) (hw:Region.wanted o (yielded ops a.tmps)=true) (hs:a.eval s=v) (hx:a.eval z=.slice Ab m.length cb)
    (HO:Kd.N (Kd.slice 3 (Kd.int .i64)) 23 W W0.heap.size (fun k_=>(J k_∧k_ < w.heap.size) ∨ W0.heap.size ≤ k_) v l) (hF:Kd.F (Kd.slice 3 (Kd.int .i64)) w (fun k_=>J k_∧k_ < w.heap.size) Ab m.length m)
    (hB:Below w.heap.size w W0) (hbw:Below W0.heap.size W0 W) (hl:l.length ≤ 1000000) (hm:m.length ≤ 1000000) (hL:L=l ++ m)
    (h:∀ A1 c1 w1,Kd.N (Kd.slice 3 (Kd.int .i64)) 23 w1 W0.heap.size (fun k_=>(J k_∧k_ < w.heap.size) ∨ W0.heap.size ≤ k_) (.slice A1 L.length c1) L → Below W0.heap.size W0 w1 → (∀ base ok u xs,Kd.R (Kd.int .i64) 3 W base ok u xs → Kd.R (Kd.int .i64) 3 w1 base ok u xs) → Kc (a.put o.dst (.slice A1 L.length c1)) w1) :
    if Region.wanted o (yielded ops a.tmps)=true then Oper.wp Try.prog o a W Kc Q else Kc (a.put o.dst undef) W:=by
  have h1:=hB.size
  have h2:=hbw.size
  refine Kd.N_append_rows_step (Kd.slice 3 (Kd.int .i64)) (w0:=W0) W0.heap.size hw s z 58 23 (.slice none 0 0) 24 ho Try.underlying58 info23 rfl (by decide) (by omega) v l m Ab m.length cb (fun k_=>(J k_∧k_ < w.heap.size) ∨ W0.heap.size ≤ k_) (fun k_=>J k_∧k_ < w.heap.size) hs hx HO (Kd.F_below hF (below_step hB hbw)) (fun k_ hk=>⟨.inl hk,fun he=>by have:=Kd.N_base HO k_ he.symm;omega⟩) (fun k_ hk=>.inr (by omega)) hbw (by omega) (by omega) ?_
  intro v1 w1 hN1 hb1 hg1 _
  rw [← hL] at hN1
  obtain ⟨A1,c1,rfl⟩:=Kd.N_slice hN1
  exact h A1 c1 w1 hN1 hb1 (fun base ok u xs hR=>Kd.R_over' hR (Kd.N_typed HO) (by decide) hg1)
theorem out_step {v:Value} {l:List S60} {p:List Int} {q:List (List Int)} {Ap Aq:Option Addr} {cp cq:Nat}
    (ho:o.op=.call { callee:=.builtin .append,args:=#[s,z],argTypes:=#[22,22] }) (hw:Region.wanted o (yielded ops a.tmps)=true) (hs:a.eval s=v) (hx:a.eval z=.slice (some ⟨W.heap.size,0,none⟩) 1 1)
    (HO:Kd.N k60 60 W0 w.heap.size (fun k_=>J k_ ∨ w.heap.size ≤ k_) v l) (hB:Below w.heap.size w W0)
    (hcp:p.length ≤ cp) (hP:Kd.F (Kd.int .i64) W (fun k_=>(J k_∧k_ < w.heap.size) ∨ W0.heap.size ≤ k_) Ap p.length p) (hcq:q.length ≤ cq) (hD:Kd.F (Kd.slice 3 (Kd.int .i64)) W (fun k_=>(J k_∧k_ < w.heap.size) ∨ W0.heap.size ≤ k_) Aq q.length q)
    (hbw:Below W0.heap.size W0 W) (hl:l.length ≤ 25005000)
    (h:∀ v1 w1,Kd.N k60 60 w1 w.heap.size (fun k_=>J k_ ∨ w.heap.size ≤ k_) v1 (l ++ [⟨p,q⟩]) → Below w.heap.size w w1 → W.grownBy w1 v.ownBlock → Kc (a.put o.dst v1) w1) :
    if Region.wanted o (yielded ops a.tmps)=true then Oper.wp Try.prog o a (W.alloc (.cells #[.slice Ap p.length cp,.slice Aq q.length cq] 60)) Kc Q else Kc (a.put o.dst undef) (W.alloc (.cells #[.slice Ap p.length cp,.slice Aq q.length cq] 60)):=by
  have h1:=hB.size
  have h2:=hbw.size
  refine Kd.N_append_step k60 (w0:=w) (W:=W) w.heap.size hw s z 22 60 (.agg #[.slice none 0 0,.slice none 0 0]) 48 ho Try.underlying22 info60 rfl (by decide) (by omega) v l (⟨p,q⟩:S60) [.slice Ap p.length cp,.slice Aq q.length cq] (fun k_=>J k_ ∨ w.heap.size ≤ k_) (fun k_=>(J k_∧k_ < w.heap.size) ∨ W0.heap.size ≤ k_) hs hx
    (k60_mkF _ _ (⟨p,q⟩:S60) hcp hP hcq hD)
    (fun k_ hk=>⟨hk.elim (fun h=>.inl h.1) (fun h=>.inr (by omega)),fun he=>by have:=Kd.N_lt HO k_ he.symm;have:=Kd.N_base HO k_ he.symm;omega⟩) (fun k_ hk=>.inr (by omega)) (Kd.N_below HO hbw) (below_step hB hbw) (by omega) (by omega) ?_
  intro v1 w1 hN1 hb1 hg1 _
  exact h v1 w1 hN1 hb1 hg1
end
set_option maxHeartbeats 4000000 in
set_option maxRecDepth 100000 in
theorem bellpullref05_Sum.calls (k:Nat) (J:Nat → Prop) (A0:Option Addr) (c0:Nat) (x:List S60) (A1:Option Addr) (c1:Nat) (y:List S60) (r:List S60) (w:World) (hx:Kd.F k60 w J A0 x.length x) (hcx:x.length ≤ c0) (hy:Kd.F k60 w J A1 y.length y) (hcy:y.length ≤ c1) (h:bellpullref05_Sum.f k x y=some r) :
    Calls Try.prog 41 #[.slice A0 x.length c0,.slice A1 y.length c1] w fun e w'=>∃ (A:Option Addr) (c:Nat),e=.returned (.slice A r.length c)∧r.length ≤ c∧Kd.F k60 w' (fun k_=>J k_ ∨ w.heap.size ≤ k_) A r.length r∧Below w.heap.size w w':=by
  unfold bellpullref05_Sum.f at h
  split at h
  case isFalse=>cases h
  rename_i hlen
  obtain ⟨hr,hel⟩:=pr.g_some _ h
  have HR:=mk0 hr
  have HEL:=mk0 hel
  have HLEN:=mk0 hlen
  have HXF:=mk0 hx
  have HYF:=mk0 hy
  have HXC:=mk0 hcx
  have HYC:=mk0 hcy
  clear h hr hel hlen hx hy hcx hcy
  go_enter Try.func41,Try.ntmps41
  go_upto_region 2 with (fail)
  have HO:Aside0 (Kd.N k60 60 (w.alloc (.cells #[] 60)) w.heap.size (fun k_=>J k_ ∨ w.heap.size ≤ k_) (.slice (some ⟨w.heap.size,0,none⟩) 0 0) (pr.at' (refSum.el k) x y 0 0)):=⟨N_empty k60 (blk_new _ _) (Nat.le_refl _) (.inr (Nat.le_refl _))⟩
  have HB:=mk0 (below_alloc (Below.refl w.heap.size w) (.cells #[] 60))
  go_wp2
  go_loopw [5,6] (fun v5 v6 wq=>∃ i:Nat,v6=.int .i64 (i:Int)∧Aside0 (i ≤ x.length)∧Aside0 (Kd.N k60 60 wq w.heap.size (fun k_=>J k_ ∨ w.heap.size ≤ k_) v5 (pr.at' (refSum.el k) x y i 0))∧Aside0 (Below w.heap.size w wq)) (fun _ v6 _=>x.length - (intOf v6).toNat)
  case atStart=>exact ⟨0,rfl,⟨Nat.zero_le _⟩,HO,HB⟩
  case round =>
    clear HO HB
    obtain ⟨i,rfl,HI,HO,HB⟩:=hrel
    by_cases hlt:i < x.length
    · have hd:decide ((i:Int) < (x.length:Int))=true:=decide_eq_true (by omega)
      have hdn:decide (i < x.length)=true:=decide_eq_true (by omega)
      have HLT:=mk0 hlt
      have HW:Aside0 (wrap64 ((i:Int) + 1)=((i + 1:Nat):Int)):=⟨by have:=HLEN.1;unfold wrap64;omega⟩
      clear hlt
      go_wp2
      go_loopw [5,7] (fun v5 v7 wq=>∃ j:Nat,v7=.int .i64 (j:Int)∧Aside0 (j ≤ y.length)∧Aside0 (Kd.N k60 60 wq w.heap.size (fun k_=>J k_ ∨ w.heap.size ≤ k_) v5 (pr.at' (refSum.el k) x y i j))∧Aside0 (Below w.heap.size w wq)) (fun _ v7 _=>y.length - (intOf v7).toNat)
      case atStart=>exact ⟨0,rfl,⟨Nat.zero_le _⟩,HO,HB⟩
      case round =>
        clear HO HB
        obtain ⟨j,rfl,HJ,HO,HB⟩:=hrel
        by_cases hjt:j < y.length
        · have hd2:decide ((j:Int) < (y.length:Int))=true:=decide_eq_true (by omega)
          have hd2n:decide (j < y.length)=true:=decide_eq_true (by omega)
          have HJT:=mk0 hjt
          obtain ⟨ax,Aa,ca,Ab,cb,e,hx0,hx1,hlca,hFa,hlcb,hFb⟩:=at_F60 HXF.1 (i:Int) (by omega) (by have:=HLT.1;omega)
          cases e
          obtain ⟨ay,Ac,cc,Ad,cd,e,hy0,hy1,hlcc,hFc,hlcd,hFd⟩:=at_F60 HYF.1 (j:Int) (by omega) (by omega)
          cases e
          obtain ⟨a,ha⟩:∃ a,a=x.getD i z60:=⟨_,rfl⟩
          have hra:rd_T60 x (i:Int)=a:=by rw [ha];rfl
          obtain ⟨b,hb⟩:∃ b,b=y.getD j z60:=⟨_,rfl⟩
          have hrb:rd_T60 y (j:Int)=b:=by rw [hb];rfl
          rw [hra] at hx0 hx1 hlca hFa hlcb hFb
          rw [hrb] at hy0 hy1 hlcc hFc hlcd hFd
          simp only [Int.toNat_natCast] at hx0 hx1 hy0 hy1
          have hE:=HEL.1 a (by rw [ha];exact mem_getD HLT.1) b (by rw [hb];exact mem_getD hjt)
          unfold refSum.el at hE
          obtain ⟨p,hp,hE⟩:=Option.bind_eq_some_iff.mp hE
          by_cases hll:a.f1.length ≤ 1000000∧b.f1.length ≤ 1000000
          case neg=>rw [if_neg hll] at hE;cases hE
          rw [if_pos hll] at hE
          obtain ⟨q,hq⟩:∃ q,q=a.f1 ++ b.f1:=⟨_,rfl⟩
          rw [← hq] at hE
          have HE:Aside0 (pr.at' (refSum.el k) x y i (j + 1)=pr.at' (refSum.el k) x y i j ++ [⟨p,q⟩]):=⟨by rw [pr.at_succ _ x y i j hjt,← ha,← hb];exact congrArg (fun z=>_ ++ [z]) (Option.some.inj hE).symm⟩
          have HWj:Aside0 (wrap64 ((j:Int) + 1)=((j + 1:Nat):Int)):=⟨by have:=HLEN.1;unfold wrap64;omega⟩
          have HPC:Aside0 (∀ W:World,Below wr.heap.size wr W → Calls Try.prog 34 #[.slice Aa a.f0.length ca,.slice Ac b.f0.length cc] W fun e w'=>∃ (Ap:Option Addr) (cp:Nat),e=.returned (.slice Ap p.length cp)∧Kd.R (Kd.int .i64) 3 w' wr.heap.size (fun _=>True) (.slice Ap p.length cp) p∧Below W.heap.size W w'):=⟨fun W hW=>by
            have hBW:=below_step HB.1 hW
            refine (bellpullref05_Plus.calls k Aa ca a.f0 Ac cc b.f0 p W (Kd.C_below (Kd.F_now hFa) hBW) hlca (Kd.C_below (Kd.F_now hFc) hBW) hlcc hp).mono ?_
            rintro e w' ⟨v,rfl,hR,hb⟩
            obtain ⟨Ap,cp,rfl⟩:=Kd.R_slice hR
            exact ⟨Ap,cp,rfl,Kd.R_lower hR hW.size,hb⟩⟩
          have HS:Aside0 (∀ w',Below w.heap.size w w' → w'.cell? (ax.add (i * 2))=some (.slice Aa a.f0.length ca)∧w'.cell? ⟨(ax.add (i * 2)).block,(ax.add (i * 2)).off + 1,none⟩=some (.slice Ab a.f1.length cb)∧w'.cell? (ay.add (j * 2))=some (.slice Ac b.f0.length cc)∧w'.cell? ⟨(ay.add (j * 2)).block,(ay.add (j * 2)).off + 1,none⟩=some (.slice Ad b.f1.length cd)):=⟨fun w' hb=>⟨pw_cell_below hb hx0,pw_cell_below hb hx1,pw_cell_below hb hy0,pw_cell_below hb hy1⟩⟩
          have HFB:=mk0 (Kd.F_bound hFb)
          have HFD:=mk0 (Kd.F_bound hFd)
          have HLA:=mk0 hll.1
          have HLB:=mk0 hll.2
          have HQ:=mk0 hq
          have q0:((0:Int) ≤ (i:Int))=True:=eq_true (by omega)
          have q1:((i:Int) < (x.length:Int))=True:=eq_true (by have:=HLT.1;omega)
          have q2:((0:Int) ≤ (j:Int))=True:=eq_true (by omega)
          have q3:((j:Int) < (y.length:Int))=True:=eq_true (by omega)
          have q4:(i < x.length)=True:=eq_true HLT.1
          have q5:(j < y.length)=True:=eq_true hjt
          have HX:=mk0 (Below.refl wr.heap.size wr)
          clear hE hp hq hll hx0 hx1 hlca hFa hlcb hFb hy0 hy1 hlcc hFc hlcd hFd ha hra hb hrb hjt
          go_upto_region 8 with (fail)
          go_region_held3 (fun w'=>w'.cell? (ax.add (i * 2))=some (.slice Aa a.f0.length ca)∧w'.cell? ⟨(ax.add (i * 2)).block,(ax.add (i * 2)).off + 1,none⟩=some (.slice Ab a.f1.length cb)∧w'.cell? (ay.add (j * 2))=some (.slice Ac b.f0.length cc)∧w'.cell? ⟨(ay.add (j * 2)).block,(ay.add (j * 2)).off + 1,none⟩=some (.slice Ad b.f1.length cd))
            (first|exact HS.1 _ HZ.1|exact HS.1 _ (below_step HB.1 (by with_reducible repeat (first|exact HX.1|apply below_alloc|apply Below.drew))))
            (first
              | (go_at_call 34;(with_reducible refine (HPC.1 _ ?b).mono ?_);(case b=>with_reducible repeat (first|exact HX.1|apply below_alloc|apply Below.drew));rintro e wp ⟨Ap,cp,rfl,hRp,hb⟩;replace HX:=mk0 (below_step (by with_reducible repeat (first|exact HX.1|apply below_alloc|apply Below.drew)) hb);have HRP:=mk0 hRp;(first|have HEB:=mk0 (blk_below (o:=.cells #[] 23 (0,0)) (by first|with_reducible exact blk_new _ _|with_reducible exact new_drew _ _) hb)|skip);clear hb hRp)
              | (refine rows_step (W0:=wr) (w:=w) (J:=J) (l:=[]) (m:=a.f1) (L:=a.f1) (by rfl) (by rfl) (by rfl) (by rfl) (N_empty _ ?eb ?le (.inr ?le2)) HFB.1 HB.1 ?b (Nat.zero_le _) HLA.1 rfl ?_;(case eb=>first|with_reducible exact HEB.1|with_reducible exact blk_new _ _|with_reducible exact new_drew _ _);(case le=>first|exact Nat.le_refl _|exact HX.1.size);(case le2=>first|exact Nat.le_refl _|exact HX.1.size);(case b=>with_reducible repeat (first|exact HX.1|apply below_alloc|apply Below.drew));intro A7 c7 w7 hN hb hRt;replace HRP:=mk0 (hRt wr.heap.size (fun _=>True) (.slice Ap p.length cp) p (by with_reducible repeat (first|exact HRP.1|refine Kd.R_alloc ?_ _|refine Kd.R_drew ?_)));have HN7:=mk0 hN;replace HX:=mk0 hb;clear hN hb hRt)
              | (refine rows_step (v:=.slice A7 a.f1.length c7) (W0:=wr) (w:=w) (J:=J) (l:=a.f1) (m:=b.f1) (L:=q) (by rfl) (by rfl) (by rfl) (by rfl) ?n HFD.1 HB.1 ?b HLA.1 HLB.1 HQ.1 ?_;(case n=>with_reducible repeat (first|exact HN7.1|refine N_al ?_ _|refine Kd.N_drew ?_));(case b=>with_reducible repeat (first|exact HX.1|apply below_alloc|apply Below.drew));intro A8 c8 w8 hN hb hRt;replace HRP:=mk0 (hRt wr.heap.size (fun _=>True) (.slice Ap p.length cp) p (by with_reducible repeat (first|exact HRP.1|refine Kd.R_alloc ?_ _|refine Kd.R_drew ?_)));have HN8:=mk0 hN;replace HX:=mk0 hb;clear hN hb hRt)
              | (refine out_step (by rfl) (by rfl) (by rfl) (by rfl) HO.1 HB.1 (Kd.R_reads' HRP.1).2.1 (Kd.F_mono (Kd.R_F (Kd.R_bound HRP.1)) (fun k_ hk=>.inr hk.2.1)) (Kd.N_reads' HN8.1).2.1 (Kd.N_F HN8.1) HX.1 (pr.at_len _ x y i j HLEN.1.1 HLEN.1.2) ?_;intro v9 w9 hN9 hb9 _;have HZ:=mk0 hb9)
              | fail)
          all_goals
            go_wp2
            go_roundw
            case rel=>exact ⟨j + 1,congrArg _ HWj.1,⟨HJT.1⟩,⟨by rw [HE.1];exact hN9⟩,⟨hb9⟩⟩
            case measure=>rw [HWj.1];simp only [intOf];have:=HJT.1;omega
        · have hd2:decide ((j:Int) < (y.length:Int))=false:=decide_eq_false (by omega)
          have hd2n:decide (j < y.length)=false:=decide_eq_false (by omega)
          have hj:j=y.length:=by have:=HJ.1;omega
          subst hj
          clear hjt
          go_wp2
          go_roundw
          case rel=>exact ⟨i + 1,congrArg _ HW.1,⟨HLT.1⟩,⟨by rw [← pr.at_row _ x y i HLT.1];exact HO.1⟩,HB⟩
          case measure=>rw [HW.1];simp only [intOf];have:=HLT.1;omega
    · have hd:decide ((i:Int) < (x.length:Int))=false:=decide_eq_false (by omega)
      have hdn:decide (i < x.length)=false:=decide_eq_false (by omega)
      have hi:i=x.length:=by have:=HI.1;omega
      subst hi
      clear hlt
      go_wp2
      go_ret
      have hN:=HO.1
      have e:pr.at' (refSum.el k) x y x.length 0=r:=by rw [HR.1];unfold pr.at';rw [List.take_length];simp
      rw [e] at hN
      obtain ⟨A,c,rfl⟩:=Kd.N_slice hN
      exact ⟨A,c,rfl,(Kd.N_reads' hN).2.1,Kd.N_F hN,HB.1⟩
end Go.Proofs.Ytkonljiembcdlaa.PC
namespace Go.Proofs.Ytkonljiembcdlaa.PC
open Go.Proofs.MyWords Go.RowKit Go.Proofs.YtkonljiembcdlaaW.PrintWords Go.Proofs.YtkonljiembcdlaaW.PrintLast Go.Proofs.YtkonljiembcdlaaW.PrintMore
attribute [local go_sem] min_two
set_option linter.unusedVariables false
set_option linter.unusedSimpArgs false
def refStar.ld0:Op:=.load 23 (.tmp 35)
def refStar.ld1:Op:=.load 58 (.tmp 45)
attribute [local go_sem] refStar.ld0 refStar.ld1
def refStar.inn (k c:Nat):List S60 → Nat → S60 → Option S60
  | [],_,l=>some l
  | a :: t,i,l=>if c / 2 ^ i % 2=1 then (bellpullref05_Plus.f k l.f0 a.f0).bind fun b=>if l.f1.length ≤ 100000∧a.f1.length ≤ 100000 then refStar.inn k c t (i + 1) ⟨b,l.f1 ++ (a.f0 :: a.f1)⟩ else none else refStar.inn k c t (i + 1) l
def refStar.out (k:Nat) (d:Int) (x:List S60):Nat → Nat → Option (List S60)
  | 0,_=>some []
  | n + 1,c=>(refStar.inn k c x 0 ⟨List.replicate d.toNat 0,[]⟩).bind fun e=>(refStar.out k d x n (c + 1)).bind fun s=>some (e :: s)
def refStar.m (x:List S60):Nat:=2 ^ min x.length 4
def bellpullref05_Star.f (k:Nat) (d:Int) (x:List S60):Option (List S60):=if 0 ≤ d∧d ≤ 100∧x.length ≤ 60 then (refStar.out k d x (refStar.m x - 1) 1).bind fun s=>some (⟨List.replicate d.toNat 0,[]⟩ :: s) else none
theorem refStar.m_le (x:List S60):1 ≤ refStar.m x∧refStar.m x ≤ 16:=by
  unfold refStar.m
  have:min x.length 4 ≤ 4:=Nat.min_le_right _ _
  exact ⟨Nat.pos_of_ne_zero (by simp),Nat.pow_le_pow_right (by decide) this⟩
theorem refStar.shl (x:List S60):IntKind.i64.wrap (1 * 2 ^ (min x.length 4))=(refStar.m x:Int):=by
  have:=refStar.m_le x
  unfold refStar.m at this ⊢
  rw [i64_w]
  unfold wrap64
  push_cast
  have h:((2:Int) ^ min x.length 4)=((2 ^ min x.length 4:Nat):Int):=by push_cast;rfl
  rw [h]
  omega
theorem refStar.bit:∀ c:Nat,c < 16 → Go.bits .and .i64 (c:Int) 1=((c % 2:Nat):Int):=by decide +kernel
theorem refStar.bits {c i:Nat} (hc:c < 16) (hi:i ≤ 60):Go.bits .and .i64 ((c:Int) / 2 ^ min i 64) 1=((c / 2 ^ i % 2:Nat):Int):=by
  rw [show min i 64=i by omega]
  have h:((c:Int) / 2 ^ i)=((c / 2 ^ i:Nat):Int):=by push_cast;rfl
  rw [h]
  exact refStar.bit _ (Nat.lt_of_le_of_lt (Nat.div_le_self _ _) hc)
theorem made_int (n:Nat):(madeCells #[.int .i64 0] n).toList=(List.replicate n (0:Int)).map (Value.int .i64):=by
  apply List.ext_getElem
  · simp [size_madeCells]
  · intro i h1 h2
    simp [madeCells,Nat.mod_one]
theorem F_zeros {W:World} {g n:Nat} (h:W.heap[g]?=some (.cells (madeCells #[.int .i64 0] n) 3 (0,0))) (hn:n ≤ 100):Kd.F (Kd.int .i64) W (fun k_=>k_=g) (some ⟨g,0,none⟩) (List.replicate n (0:Int)).length (List.replicate n 0):=fun W' hW=>C_box ((hW g rfl (blk_lt h)).trans h) (made_int n) (by simpa using hn)
section
variable {ops:Array Oper} {o:Oper} {a:Act} {W0 W:World} {Q:Exit → Act → World → Prop} {Kc:Act → World → Prop} {ok okp:Nat → Prop} {s z:Operand}
theorem rows_stepG {v:Value} {l m L:List (List Int)} {Ab:Option Addr} {cb:Nat}
    (ho:o.op=.call { callee:=.builtin .append,args:=#[s,z],argTypes:=#[58,58] }) (hw:Region.wanted o (yielded ops a.tmps)=true) (hs:a.eval s=v) (hx:a.eval z=.slice Ab m.length cb)
    (HO:Kd.N (Kd.slice 3 (Kd.int .i64)) 23 W W0.heap.size ok v l) (hF:Kd.F (Kd.slice 3 (Kd.int .i64)) W okp Ab m.length m) (hok:∀ k_,okp k_ → ok k_∧some k_ ≠ v.ownBlock) (hfr:∀ k_,W0.heap.size ≤ k_ → ok k_)
    (hbw:Below W0.heap.size W0 W) (hl:l.length ≤ 1000000) (hm:m.length ≤ 1000000) (hL:L=l ++ m)
    (h:∀ A1 c1 w1,Kd.N (Kd.slice 3 (Kd.int .i64)) 23 w1 W0.heap.size ok (.slice A1 L.length c1) L → Below W0.heap.size W0 w1 → W.grownBy w1 v.ownBlock → ((Value.slice A1 L.length c1).ownBlock=v.ownBlock ∨ ∃ b,(Value.slice A1 L.length c1).ownBlock=some b∧W.heap.size ≤ b) → Kc (a.put o.dst (.slice A1 L.length c1)) w1) :
    if Region.wanted o (yielded ops a.tmps)=true then Oper.wp Try.prog o a W Kc Q else Kc (a.put o.dst undef) W:=by
  have h2:=hbw.size
  refine Kd.N_append_rows_step (Kd.slice 3 (Kd.int .i64)) (w0:=W0) W0.heap.size hw s z 58 23 (.slice none 0 0) 24 ho Try.underlying58 info23 rfl (by decide) (by omega) v l m Ab m.length cb ok okp hs hx HO hF hok (fun k_ hk=>hfr k_ (by omega)) hbw h2 (by omega) ?_
  intro v1 w1 hN1 hb1 hg1 hat
  rw [← hL] at hN1
  obtain ⟨A1,c1,rfl⟩:=Kd.N_slice hN1
  exact h A1 c1 w1 hN1 hb1 hg1 hat
theorem rows_stepE {m:List (List Int)} {Ab:Option Addr} {cb g:Nat}
    (ho:o.op=.call { callee:=.builtin .append,args:=#[s,z],argTypes:=#[58,58] }) (hw:Region.wanted o (yielded ops a.tmps)=true) (hs:a.eval s=.slice (some ⟨g,0,none⟩) 0 0) (hx:a.eval z=.slice Ab m.length cb)
    (hg:W.heap[g]?=some (.cells #[] 23 (0,0))) (hle:W0.heap.size ≤ g) (hF:Kd.F (Kd.slice 3 (Kd.int .i64)) W0 okp Ab m.length m) (hok:∀ k_,okp k_ → ok k_∧k_ < W0.heap.size) (hfr:∀ k_,W0.heap.size ≤ k_ → ok k_)
    (hbw:Below W0.heap.size W0 W) (hm:m.length ≤ 1000000)
    (h:∀ A1 c1 w1,Kd.N (Kd.slice 3 (Kd.int .i64)) 23 w1 W0.heap.size ok (.slice A1 m.length c1) m → Below W0.heap.size W0 w1 → W.grownBy w1 (some g) → ((Value.slice A1 m.length c1).ownBlock=some g ∨ ∃ b,(Value.slice A1 m.length c1).ownBlock=some b∧W.heap.size ≤ b) → Kc (a.put o.dst (.slice A1 m.length c1)) w1) :
    if Region.wanted o (yielded ops a.tmps)=true then Oper.wp Try.prog o a W Kc Q else Kc (a.put o.dst undef) W :=
  rows_stepG (l:=[]) ho hw hs hx (N_empty _ hg hle (hfr g hle)) (Kd.F_below hF hbw) (fun k_ hk=>⟨(hok k_ hk).1,fun he=>by have h:=Option.some.inj (show some k_=some g from he);have:=(hok k_ hk).2;omega⟩) hfr hbw (Nat.zero_le _) hm rfl h
end
theorem blk_al {w:World} {g:Nat} {o:Obj} (h:w.heap[g]?=some o) (o2:Obj):(w.alloc o2).heap[g]?=some o:=blk_below h (below_alloc (Below.refl _ _) o2)
theorem new2 (w:World) (E o:Obj):((w.alloc E).alloc o).heap[w.heap.size + 1]?=some o:=by simpa using blk_new (w.alloc E) o
theorem ne1 (n:Nat):some (n + 1) ≠ some n:=by simp
theorem ne2 (n:Nat):some n ≠ some (n + 1):=by simp
theorem F_lit1 {W:World} {g:Nat} {ok:Nat → Prop} {A:Option Addr} {c:Nat} {p:List Int} (h:W.heap[g]?=some (.cells #[.slice A p.length c] 23 (0,0))) (hA:Kd.F (Kd.int .i64) W ok A p.length p) (hc:p.length ≤ c):Kd.F (Kd.slice 3 (Kd.int .i64)) W (fun k_=>k_=g ∨ ok k_) (some ⟨g,0,none⟩) [p].length [p]:=fun W' hW=>by
  have h2:W'.heap[g]?=some (.cells #[.slice A p.length c] 23 (0,0)):=(hW g (.inl rfl) (blk_lt h)).trans h
  have hC:=hA W' (fun k hk hlt=>hW k (.inr hk) hlt)
  refine ⟨rfl,by simp,fun _=>⟨⟨g,0,none⟩,rfl,fun q u hq=>?_⟩⟩
  match q,hq with
  | 0,hq =>
    obtain rfl:u=p:=by simpa using hq.symm
    refine ⟨[.slice A u.length c],rfl,⟨A,c,rfl,hc,hC⟩,fun a b hab=>?_⟩
    match a,hab with
    | 0,hab=>exact ((by rw [show (0 * (Kd.slice 3 (Kd.int .i64)).sz + 0)=0 by simp,add_plain,blk_cell h2];rfl:W'.cell? ((⟨g,0,none⟩:Addr).add (0 * (Kd.slice 3 (Kd.int .i64)).sz + 0))=some (.slice A u.length c))).trans hab
theorem lit_kept {W w7:World} {g e:Nat} {v v7:Option Nat} {cells:Array Value} (hK:W.heap[g]?=some (.cells cells e (0,0))) (hg:W.grownBy w7 v) (hne:some g ≠ v) (hat:v7=v ∨ ∃ b,v7=some b∧W.heap.size ≤ b):w7.heap[g]?=some (.cells cells e (0,0))∧some g ≠ v7 :=
  ⟨blk_grown hK hg hne,by
    rcases hat with rfl|⟨b,rfl,hb⟩
    · exact hne
    · intro he
      have:=blk_lt hK
      injection he with he
      omega⟩
theorem N_one {W:World} {base:Nat} {ok okp:Nat → Prop} {p:List Int} {q:List (List Int)} {A B:Option Addr} {c d:Nat} (hb:base ≤ W.heap.size) (hF:Kd.FK k60 W okp (⟨p,q⟩:S60) [.slice A p.length c,.slice B q.length d]) (hok:∀ k,okp k → ok k) (hfresh:ok W.heap.size):Kd.N k60 60 (W.alloc (.cells #[.slice A p.length c,.slice B q.length d] 60)) base ok (.slice (some ⟨W.heap.size,0,none⟩) 1 1) [(⟨p,q⟩:S60)]:=by
  refine Kd.N_made (W:=W) (rows:=[[.slice A p.length c,.slice B q.length d]]) (okp:=okp) ⟨fun k hk=>by simpa [Value.ownBlock] using hk.symm,[.slice A p.length c,.slice B q.length d],World.ownsRow_lit W #[.slice A p.length c,.slice B q.length d] 1 hb (by decide) rfl,rfl,fun j p' hj=>?_⟩ (let h:=below_alloc (Below.refl W.heap.size W) (.cells #[.slice A p.length c,.slice B q.length d] 60);⟨h.os,h.tape,h.output,h.size,fun i hi _=>h.block i hi⟩) ⟨_,rfl,Nat.le_refl _⟩ rfl (fun j x' c' hx hc=>?_) hok hfresh
  · match j,hj with
    | 0,hj =>
      obtain rfl:[.slice A p.length c,.slice B q.length d]=p':=by simpa using hj
      exact ⟨rfl,rfl,fun u hu=>by rcases List.mem_cons.1 hu with rfl|hu;rfl;obtain rfl:=List.mem_singleton.1 hu;rfl⟩
  · match j,hx,hc with
    | 0,hx,hc =>
      obtain rfl:(⟨p,q⟩:S60)=x':=by simpa using hx
      obtain rfl:[.slice A p.length c,.slice B q.length d]=c':=by simpa using hc
      exact hF
set_option maxHeartbeats 4000000 in
set_option maxRecDepth 100000 in
theorem bellpullref05_Star.calls (k:Nat) (J:Nat → Prop) (d:Int) (A0:Option Addr) (c0:Nat) (x:List S60) (r:List S60) (w:World) (hx:Kd.F k60 w J A0 x.length x) (hcx:x.length ≤ c0) (h:bellpullref05_Star.f k d x=some r) :
    Calls Try.prog 42 #[.int .i64 d,.slice A0 x.length c0] w fun e w'=>∃ (A:Option Addr) (c:Nat),e=.returned (.slice A r.length c)∧r.length ≤ c∧Kd.F k60 w' (fun k_=>J k_ ∨ w.heap.size ≤ k_) A r.length r∧Below w.heap.size w w':=by
  unfold bellpullref05_Star.f at h
  by_cases hd:0 ≤ d∧d ≤ 100∧x.length ≤ 60
  case neg=>rw [if_neg hd] at h;cases h
  rw [if_pos hd] at h
  obtain ⟨s0,hs0,h⟩:=Option.bind_eq_some_iff.mp h
  have hr:=Option.some.inj h
  have HR:=mk0 hr
  have HS0:=mk0 hs0
  have HD:=mk0 hd
  have HXF:=mk0 hx
  have HXC:=mk0 hcx
  obtain ⟨n,rfl⟩:∃ n:Nat,d=n:=⟨d.toNat,by omega⟩
  rw [Int.toNat_natCast] at HR
  have hn0:=eq_true hd.1
  have HN1:Aside0 (n ≤ 100):=⟨by omega⟩
  have hmk:∀ W:World,(Instr.makeSlice 23 (.int .i64 (n:Int)) (.int .i64 (n:Int))).run Try.prog W=.ok (.slice (some ⟨W.heap.size,0,none⟩) n n) (W.alloc (.cells (madeCells #[.int .i64 0] n) 3)):=fun W=>run_make_row' 23 3 (.int .i64 0) 8 Try.underlying23 info3 rfl .i64 .i64 n (by omega) (by omega) W
  clear h hr hs0 hx hcx hd
  have HB:=mk0 (Below.refl w.heap.size w)
  go_enter Try.func42,Try.ntmps42
  go_upto_region 2 with (fail)
  have HO:Aside0 (Kd.N k60 60 ((w.alloc (.cells (madeCells #[.int .i64 0] n) 3)).alloc (.cells #[.slice (some ⟨w.heap.size,0,none⟩) n n,.slice none 0 0] 60)) w.heap.size (fun k_=>J k_ ∨ w.heap.size ≤ k_) (.slice (some ⟨w.heap.size + 1,0,none⟩) 1 1) [(⟨List.replicate n 0,[]⟩:S60)]):=⟨by
    have hz:=F_zeros (blk_new w (.cells (madeCells #[.int .i64 0] n) 3)) HN1.1
    have h:=N_one (W:=w.alloc (.cells (madeCells #[.int .i64 0] n) 3)) (base:=w.heap.size) (ok:=fun k_=>J k_ ∨ w.heap.size ≤ k_) (okp:=fun k_=>k_=w.heap.size) (p:=List.replicate n 0) (q:=[]) (A:=some ⟨w.heap.size,0,none⟩) (B:=none) (c:=n) (d:=0) (by simp) (k60_mkF _ _ ⟨List.replicate n 0,[]⟩ (by simp) hz (Nat.le_refl _) (Kd.F_nil _ _ _)) (fun k_ hk=>.inr (by omega)) (.inr (by simp))
    simpa using h⟩
  replace HB:=mk0 (below_alloc (below_alloc HB.1 (.cells (madeCells #[.int .i64 0] n) 3)) (.cells #[.slice (some ⟨w.heap.size,0,none⟩) n n,.slice none 0 0] 60))
  generalize ((w.alloc (.cells (madeCells #[.int .i64 0] n) 3)).alloc (.cells #[.slice (some ⟨w.heap.size,0,none⟩) n n,.slice none 0 0] 60))=wS at HO HB ⊢
  generalize (Value.slice (some ⟨w.heap.size + 1,0,none⟩) 1 1)=vS at HO ⊢
  have HM:=mk0 (refStar.m_le x)
  go_wp2
  go_loopw [5,6] (fun v5 v6 wq=>∃ (c:Nat) (l s:List S60),v6=.int .i64 (c:Int)∧Aside0 (1 ≤ c∧c ≤ refStar.m x)∧Aside0 (refStar.out k n x (refStar.m x - c) c=some s)∧Aside0 (l ++ s=r∧l.length=c)∧Aside0 (Kd.N k60 60 wq w.heap.size (fun k_=>J k_ ∨ w.heap.size ≤ k_) v5 l)∧Aside0 (Below w.heap.size w wq)) (fun _ v6 _=>refStar.m x - (intOf v6).toNat)
  case atStart=>exact ⟨1,_,s0,rfl,⟨Nat.le_refl _,HM.1.1⟩,HS0,⟨HR.1,rfl⟩,HO,HB⟩
  case round =>
    clear HO HB HS0 HR
    obtain ⟨c,l,s,rfl,HC,HS,HL,HO,HB⟩:=hrel
    obtain ⟨q,hq⟩:∃ q,q=min x.length 4:=⟨_,rfl⟩
    have hmn:Builtin.min2 (.int .i64 (x.length:Int)) (.int .i64 4)=pure (.int .i64 (q:Int)):=by
      rw [min2_int,hq]
      congr 2
      split <;> omega
    have hq0:((0:Int) ≤ (q:Int))=True:=eq_true (by omega)
    have hsl:wrap64 (2 ^ min q 64)=(refStar.m x:Int):=by
      have:=refStar.shl x
      rw [i64_w,Int.one_mul,← hq] at this
      rw [show min q 64=q by omega]
      exact this
    clear hq
    by_cases hlt:c < refStar.m x
    · have hd1:decide ((c:Int) < (refStar.m x:Int))=true:=decide_eq_true (by omega)
      have hd1n:decide (c < refStar.m x)=true:=decide_eq_true hlt
      have hs:=HS.1
      rw [show refStar.m x - c=(refStar.m x - (c + 1)) + 1 by omega,refStar.out] at hs
      obtain ⟨e,he,hs⟩:=Option.bind_eq_some_iff.mp hs
      obtain ⟨s2,hs2,hs⟩:=Option.bind_eq_some_iff.mp hs
      have hs3:=Option.some.inj hs
      rw [Int.toNat_natCast] at he
      have HE:=mk0 he
      have HS2:=mk0 hs2
      have HL2:Aside0 ((l ++ [e]) ++ s2=r∧(l ++ [e]).length=c + 1):=⟨by rw [List.append_assoc,List.singleton_append,hs3];exact HL.1.1,by rw [List.length_append,HL.1.2];rfl⟩
      have HLT:=mk0 hlt
      have HZ:=mk0 (F_zeros (blk_new wr (.cells (madeCells #[.int .i64 0] n) 3)) HN1.1)
      have HX:=mk0 (below_alloc (Below.refl wr.heap.size wr) (.cells (madeCells #[.int .i64 0] n) 3))
      clear hs hs2 hs3 he hlt HS
      go_upto_region 6 with (first
        | ((with_reducible refine gate_dst (N:=7) rfl ?_);refine box_event ?hg (N:=7) ?hd (cs:=#[.slice none 0 0,.slice none 0 0]) (t:=60) ?hr ?_;(case hd=>rfl);(case hg=>rfl);(case hr=>first|(go_simp;done)|(go_simp;rfl));intro g hg w6 hbox hb;have HBK:=mk0 hbox;have HG:=mk0 (show wr.heap.size + 1 ≤ g from by rw [hg];simp);replace HX:=mk0 (below_step HX.1 hb);replace HZ:=mk0 (Kd.F_below HZ.1 hb);clear hb hbox hg;have hcl0:w6.cell? ⟨g,0,none⟩=some (.slice none 0 0):=(blk_cell HBK.1 0).trans rfl;have hcl1:w6.cell? ⟨g,1,none⟩=some (.slice none 0 0):=(blk_cell HBK.1 1).trans rfl;have hfl0:=blk_frozen HBK.1 0;have hfl1:=blk_frozen HBK.1 1))
      clear hcl0 hcl1 hfl0 hfl1
      replace HX:Aside0 (Below wr.heap.size wr ((w6.setCell ⟨g,0,none⟩ (.slice (some ⟨wr.heap.size,0,none⟩) n n)).setCell ⟨g,1,none⟩ (.slice none 0 0))):=⟨below_set (below_set HX.1 (by have:=HG.1;omega)) (by have:=HG.1;omega)⟩
      replace HBK:Aside0 (((w6.setCell ⟨g,0,none⟩ (.slice (some ⟨wr.heap.size,0,none⟩) n n)).setCell ⟨g,1,none⟩ (.slice none 0 0)).heap[g]?=some (.cells #[.slice (some ⟨wr.heap.size,0,none⟩) n n,.slice none 0 0] 60 (0,0))):=⟨by refine blk_put (cs:=#[.slice (some ⟨wr.heap.size,0,none⟩) n n,.slice none 0 0]) ?_ 1 _ rfl;exact blk_put HBK.1 0 _ rfl⟩
      replace HZ:Aside0 (Kd.F (Kd.int .i64) ((w6.setCell ⟨g,0,none⟩ (.slice (some ⟨wr.heap.size,0,none⟩) n n)).setCell ⟨g,1,none⟩ (.slice none 0 0)) (fun k_=>(J k_∧k_ < w.heap.size) ∨ (wr.heap.size ≤ k_∧k_ ≠ g)) (some ⟨wr.heap.size,0,none⟩) (List.replicate n (0:Int)).length (List.replicate n 0)):=⟨Kd.F_mono (Kd.F_far (p:=⟨g,1,none⟩) (Kd.F_far (p:=⟨g,0,none⟩) HZ.1 (fun k_ hk=>by have:=HG.1;show k_ ≠ g;omega) _) (fun k_ hk=>by have:=HG.1;show k_ ≠ g;omega) _) (fun k_ hk=>.inr ⟨by omega,by have:=HG.1;omega⟩)⟩
      generalize ((w6.setCell ⟨g,0,none⟩ (.slice (some ⟨wr.heap.size,0,none⟩) n n)).setCell ⟨g,1,none⟩ (.slice none 0 0))=w7 at HX HBK HZ ⊢
      have HW0:=mk0 HB.1.size
      go_wp2
      go_loopw [8] (fun v8 wz=>∃ (i:Nat) (t:S60) (Ap:Option Addr) (cp:Nat) (Aq:Option Addr) (cq:Nat),v8=.int .i64 (i:Int)∧Aside0 (i ≤ x.length)∧Aside0 (refStar.inn k c (x.drop i) i t=some e)∧Aside0 (wz.heap[g]?=some (.cells #[.slice Ap t.f0.length cp,.slice Aq t.f1.length cq] 60 (0,0)))∧Aside0 (t.f0.length ≤ cp∧t.f1.length ≤ cq)∧Aside0 (Kd.F (Kd.int .i64) wz (fun k_=>(J k_∧k_ < w.heap.size) ∨ (wr.heap.size ≤ k_∧k_ ≠ g)) Ap t.f0.length t.f0)∧Aside0 (Kd.F (Kd.slice 3 (Kd.int .i64)) wz (fun k_=>(J k_∧k_ < w.heap.size) ∨ (wr.heap.size ≤ k_∧k_ ≠ g)) Aq t.f1.length t.f1)∧Aside0 (Below wr.heap.size wr wz)) (fun v8 _=>x.length - (intOf v8).toNat)
      case atStart=>exact ⟨0,⟨List.replicate n 0,[]⟩,some ⟨wr.heap.size,0,none⟩,n,none,0,rfl,⟨Nat.zero_le _⟩,HE,⟨by have:=HBK.1;simpa using this⟩,⟨⟨by simp,Nat.le_refl _⟩⟩,HZ,⟨Kd.F_nil _ _ _⟩,HX⟩
      case round =>
        clear HX HBK HZ HE
        rename World=>wz
        obtain ⟨i,t,Ap,cp,Aq,cq,rfl,HI,HIN,HBK,HTC,HP,HQ,HX⟩:=hrel
        have hcl0:wz.cell? ⟨g,0,none⟩=some (.slice Ap t.f0.length cp):=(blk_cell HBK.1 0).trans rfl
        have hcl1:wz.cell? ⟨g,1,none⟩=some (.slice Aq t.f1.length cq):=(blk_cell HBK.1 1).trans rfl
        by_cases hit:i < x.length
        · have hd2:decide ((i:Int) < (x.length:Int))=true:=decide_eq_true (by omega)
          have hd2n:decide (i < x.length)=true:=decide_eq_true hit
          have HIT:=mk0 hit
          have HWI:Aside0 (wrap64 ((i:Int) + 1)=((i + 1:Nat):Int)):=⟨by have:=HD.1;unfold wrap64;omega⟩
          have q0:((0:Int) ≤ (i:Int))=True:=eq_true (by omega)
          have hin:=HIN.1
          obtain ⟨a,ha⟩:∃ a,a=x.getD i z60:=⟨_,rfl⟩
          have hdrop:x.drop i=a :: x.drop (i + 1):=by
            rw [List.drop_eq_getElem_cons hit,ha,List.getD_eq_getElem?_getD,List.getElem?_eq_getElem hit]
            rfl
          rw [hdrop,refStar.inn] at hin
          have hbits:=refStar.bits (c:=c) (i:=i) (by have:=HLT.1;have:=HM.1;omega) (by have:=HD.1;omega)
          by_cases hb1:c / 2 ^ i % 2=1
          · rw [if_pos hb1] at hin
            have hbt:(Go.bits .and .i64 ((c:Int) / 2 ^ min i 64) 1 == 1)=true:=by rw [hbits,hb1];rfl
            obtain ⟨b,hb,hin⟩:=Option.bind_eq_some_iff.mp hin
            by_cases hll:t.f1.length ≤ 100000∧a.f1.length ≤ 100000
            case neg=>rw [if_neg hll] at hin;cases hin
            rw [if_pos hll] at hin
            obtain ⟨ax,Aa,ca,Ab,cb,e0,hx0,hx1,hlca,hFa,hlcb,hFb⟩:=at_F60 HXF.1 (i:Int) (by omega) (by omega)
            cases e0
            have hra:rd_T60 x (i:Int)=a:=by rw [ha];rfl
            rw [hra] at hx0 hx1 hlca hFa hlcb hFb
            simp only [Int.toNat_natCast] at hx0 hx1
            have HBW:=mk0 (below_step HB.1 HX.1)
            have HS:Aside0 (∀ w',Below w.heap.size w w' → w'.cell? (ax.add (i * 2))=some (.slice Aa a.f0.length ca)∧w'.cell? ⟨(ax.add (i * 2)).block,(ax.add (i * 2)).off + 1,none⟩=some (.slice Ab a.f1.length cb)):=⟨fun w' hb=>⟨pw_cell_below hb hx0,pw_cell_below hb hx1⟩⟩
            replace hx0:=pw_cell_below HBW.1 hx0
            have HPC:Aside0 (∀ W:World,Below wz.heap.size wz W → Calls Try.prog 34 #[.slice Ap t.f0.length cp,.slice Aa a.f0.length ca] W fun e w'=>∃ (A9:Option Addr) (c9:Nat),e=.returned (.slice A9 b.length c9)∧Kd.R (Kd.int .i64) 3 w' wz.heap.size (fun _=>True) (.slice A9 b.length c9) b∧Below wz.heap.size wz w'):=⟨fun W hW=>by
              refine (bellpullref05_Plus.calls k Ap cp t.f0 Aa ca a.f0 b W (Kd.C_below (Kd.F_now HP.1) hW) HTC.1.1 (Kd.C_below (Kd.F_now hFa) (below_step HBW.1 hW)) hlca hb).mono ?_
              rintro e w' ⟨v,rfl,hR,hb⟩
              obtain ⟨A9,c9,rfl⟩:=Kd.R_slice hR
              exact ⟨A9,c9,rfl,Kd.R_lower hR hW.size,below_step hW hb⟩⟩
            have HFA:=mk0 (Kd.F_bound hFa)
            have HFB:=mk0 (Kd.F_bound hFb)
            have HLA:=mk0 hlca
            have HLB:=mk0 hlcb
            have HLL:=mk0 hll
            have HIN2:=mk0 hin
            have HGW:=mk0 (blk_lt HBK.1)
            have q1:((i:Int) < (x.length:Int))=True:=eq_true (by omega)
            have q1n:(i < x.length)=True:=eq_true hit
            clear hin hb hll hx1 hlca hFa hlcb hFb ha hra hdrop hbits hb1 hit HIN
            go_upto_region 10 with (fail)
            have HG2:=mk0 (show wr.heap.size ≤ g by have:=HG.1;omega)
            rw [show Op.load 23 (Operand.tmp 35)=refStar.ld0 from rfl]
            go_region_held3 (fun w'=>w'.cell? (ax.add (i * 2))=some (.slice Aa a.f0.length ca)) (exact (HS.1 _ (below_step HB.1 (by with_reducible repeat (first|exact HX.1|exact below_step HX.1 HB8.1|refine below_set ?_ HG2.1|apply below_alloc|apply Below.drew)))).1)
              (first
                | (go_at_call 34;(with_reducible refine (HPC.1 _ ?b).mono ?_);(case b=>with_reducible repeat (first|exact Below.refl _ _|apply below_alloc|apply Below.drew));rintro e w8 ⟨A9,c9,rfl,hR,hb⟩;have HR:=mk0 hR;have HB8:=mk0 hb;have HK8:=mk0 (blk_below HBK.1 hb);have hz0:w8.cell? ⟨g,0,none⟩=some (.slice Ap t.f0.length cp):=(blk_cell HK8.1 0).trans rfl;have hf0:=blk_frozen HK8.1 0;clear hb hR)
                | fail)
            have HX9:Aside0 (Below wr.heap.size wr (w8.setCell ⟨g,0,none⟩ (.slice A9 b.length c9))):=⟨below_set (below_step HX.1 HB8.1) HG2.1⟩
            have HK9:Aside0 ((w8.setCell ⟨g,0,none⟩ (.slice A9 b.length c9)).heap[g]?=some (.cells #[.slice A9 b.length c9,.slice Aq t.f1.length cq] 60 (0,0))):=⟨blk_put HK8.1 0 _ rfl⟩
            have HP9:Aside0 (Kd.F (Kd.int .i64) (w8.setCell ⟨g,0,none⟩ (.slice A9 b.length c9)) (fun k_=>(J k_∧k_ < w.heap.size) ∨ (wr.heap.size ≤ k_∧k_ ≠ g)) A9 b.length b):=⟨Kd.F_far (p:=⟨g,0,none⟩) (Kd.F_mono (Kd.R_F (Kd.R_bound HR.1)) (fun k_ hk=>.inr ⟨Nat.le_trans HX.1.size hk.2.1,by have:=HGW.1;omega⟩)) (fun k_ hk=>by have:=HW0.1;have:=HG2.1;show k_ ≠ g;omega) _⟩
            have HQ9:Aside0 (Kd.F (Kd.slice 3 (Kd.int .i64)) (w8.setCell ⟨g,0,none⟩ (.slice A9 b.length c9)) (fun k_=>(J k_∧k_ < w.heap.size) ∨ (wr.heap.size ≤ k_∧k_ ≠ g)) Aq t.f1.length t.f1):=⟨Kd.F_far (p:=⟨g,0,none⟩) (Kd.F_below HQ.1 HB8.1) (fun k_ hk=>by have:=HW0.1;have:=HG2.1;show k_ ≠ g;omega) _⟩
            have HL9:=mk0 (Kd.R_reads' HR.1).2.1
            have HG3:=mk0 HG.1
            have HTQ:=mk0 HTC.1.2
            clear HX HB8 HK8 HR hz0 hf0 HBK HP HQ HPC hcl0 hcl1 hx0 HTC HBW
            generalize w8.setCell ⟨g,0,none⟩ (.slice A9 b.length c9)=w9 at HX9 HK9 HP9 HQ9 ⊢
            have hcl1:w9.cell? ⟨g,1,none⟩=some (.slice Aq t.f1.length cq):=(blk_cell HK9.1 1).trans rfl
            have hcla:∀ o,(w9.alloc o).cell? ⟨g,1,none⟩=some (.slice Aq t.f1.length cq):=fun o=>pw_cell_below (below_alloc (Below.refl _ _) o) hcl1
            have hclb:∀ o o2,((w9.alloc o).alloc o2).cell? ⟨g,1,none⟩=some (.slice Aq t.f1.length cq):=fun o o2=>pw_cell_below (below_alloc (Below.refl _ _) o2) (hcla o)
            have HBW:=mk0 (below_step HB.1 HX9.1)
            have HX:=mk0 (Below.refl w9.heap.size w9)
            have HG9:=mk0 (blk_lt HK9.1)
            have HGW2:=mk0 (show w.heap.size ≤ g by have:=HW0.1;have:=HG3.1;omega)
            have HS9:Aside0 (wr.heap.size ≤ w9.heap.size∧w.heap.size ≤ w9.heap.size):=⟨HX9.1.size,HBW.1.size⟩
            obtain ⟨L1,hL1⟩:∃ L1,L1=t.f1 ++ [a.f0]:=⟨_,rfl⟩
            obtain ⟨L2,hL2⟩:∃ L2,L2=L1 ++ a.f1:=⟨_,rfl⟩
            have HL1:=mk0 hL1
            have HL2':=mk0 hL2
            have HLL1:Aside0 (L1.length ≤ 100001):=⟨by have:=HLL.1.1;rw [hL1,List.length_append,List.length_singleton];omega⟩
            have HLt:Aside0 (t.f1 ++ (a.f0 :: a.f1)=L2):=⟨by rw [hL2,hL1];simp⟩
            have HIN3:Aside0 (refStar.inn k c (x.drop (i + 1)) (i + 1) ⟨b,L2⟩=some e):=⟨by rw [← HLt.1];exact HIN2.1⟩
            clear hL1 hL2
            go_upto_region 11 with (fail)
            rw [show Op.load 58 (Operand.tmp 45)=refStar.ld1 from rfl]
            go_region_held3 (fun w'=>w'.cell? (ax.add (i * 2))=some (.slice Aa a.f0.length ca)∧w'.cell? ⟨(ax.add (i * 2)).block,(ax.add (i * 2)).off + 1,none⟩=some (.slice Ab a.f1.length cb)) (first|with_reducible exact HS.1 _ (below_set (below_step HBW.1 HX.1) HGW2.1)|exact HS.1 _ (below_step HBW.1 (by with_reducible repeat (first|exact HX.1|apply below_alloc|apply Below.drew))))
              (first
                | (refine rows_stepE (W0:=w9) (ok:=fun k_=>(J k_∧k_ < w.heap.size) ∨ (wr.heap.size ≤ k_∧k_ ≠ g)) (m:=t.f1) (by rfl) (by rfl) (by rfl) (by rfl) ?eb ?le (Kd.F_bound HQ9.1) (fun k_ hk=>hk) (fun k_ hk=>.inr ⟨Nat.le_trans HS9.1.1 hk,by have:=HG9.1;omega⟩) ?b (Nat.le_trans HLL.1.1 (by decide)) ?_;(case eb=>with_reducible repeat (first|exact blk_new _ _|exact new2 _ _ _|refine blk_drew ?_|refine blk_al ?_ _));(case le=>first|exact Nat.le_refl _|simp);(case b=>with_reducible repeat (first|exact HX.1|apply below_alloc|apply Below.drew));intro A7 c7 w7 hN hb hg hat;have HN7:=mk0 hN;replace HX:=mk0 hb;(first|(with_reducible have HK7:=mk0 (lit_kept (g:=w9.heap.size + 1) (e:=23) (cells:=#[.slice Aa a.f0.length ca]) (new2 _ _ _) hg (ne1 _) hat))|(with_reducible have HK7:=mk0 (lit_kept (g:=w9.heap.size + 1) (e:=23) (cells:=#[.slice Aa a.f0.length ca]) (blk_drew (new2 _ _ _)) hg (ne1 _) hat))|(with_reducible have HK7:=mk0 (lit_kept (g:=w9.heap.size) (e:=23) (cells:=#[.slice Aa a.f0.length ca]) (blk_al (blk_new _ _) _) hg (ne2 _) hat))|(with_reducible have HK7:=mk0 (lit_kept (g:=w9.heap.size) (e:=23) (cells:=#[.slice Aa a.f0.length ca]) (blk_drew (blk_al (blk_new _ _) _)) hg (ne2 _) hat))|skip);clear hN hb hg hat)
                | (refine rows_stepG (W0:=w9) (v:=.slice A7 t.f1.length c7) (ok:=fun k_=>(J k_∧k_ < w.heap.size) ∨ (wr.heap.size ≤ k_∧k_ ≠ g)) (l:=t.f1) (m:=[a.f0]) (L:=L1) (by rfl) (by rfl) (by rfl) (by rfl) ?n (F_lit1 ?g1 (Kd.F_below HFA.1 (below_step HBW.1 ?b)) HLA.1) ?ok1 (fun k_ hk=>.inr ⟨Nat.le_trans HS9.1.1 hk,by have:=HG9.1;omega⟩) ?b (Nat.le_trans HLL.1.1 (by decide)) (by simp) HL1.1 ?_;(case n=>with_reducible repeat (first|exact HN7.1|refine N_al ?_ _|refine Kd.N_drew ?_));(case g1=>with_reducible repeat (first|exact HK7.1.1|exact blk_new _ _|refine blk_drew ?_|refine blk_al ?_ _));(case b=>with_reducible repeat (first|exact HX.1|apply below_alloc|apply Below.drew));(case ok1=>intro k_ hk;rcases hk with rfl|hk;exact ⟨.inr ⟨Nat.le_trans HS9.1.1 (by first|exact HX.1.size|exact Nat.le_refl _|simp),by have h1:=HG9.1;have h2:w9.heap.size ≤ _:=(by first|exact HX.1.size|exact Nat.le_refl _|simp);omega⟩,by first|exact HK7.1.2|exact fun he=>Nat.lt_irrefl _ (Kd.N_lt HN7.1 _ he.symm)⟩;exact ⟨.inl hk,fun he=>by have:=Kd.N_base HN7.1 _ he.symm;have:=HS9.1.2;omega⟩);intro A8 c8 w8 hN hb hg hat;have HN8:=mk0 hN;replace HX:=mk0 hb;clear hN hb hg hat)
                | (refine rows_stepG (W0:=w9) (v:=.slice A8 L1.length c8) (ok:=fun k_=>(J k_∧k_ < w.heap.size) ∨ (wr.heap.size ≤ k_∧k_ ≠ g)) (l:=L1) (m:=a.f1) (L:=L2) (by rfl) (by rfl) (by rfl) (by rfl) ?n (Kd.F_below HFB.1 (below_step HBW.1 ?b)) (fun k_ hk=>⟨.inl hk,fun he=>by have:=Kd.N_base HN8.1 _ he.symm;have:=HS9.1.2;have:=hk.2;omega⟩) (fun k_ hk=>.inr ⟨Nat.le_trans HS9.1.1 hk,by have:=HG9.1;omega⟩) ?b2 (Nat.le_trans HLL1.1 (by decide)) (Nat.le_trans HLL.1.2 (by decide)) HL2'.1 ?_;(case n=>with_reducible repeat (first|exact HN8.1|refine N_al ?_ _|refine Kd.N_drew ?_));(case b=>with_reducible repeat (first|exact HX.1|apply below_alloc|apply Below.drew));(case b2=>with_reducible repeat (first|exact HX.1|apply below_alloc|apply Below.drew));intro A10 c10 w10 hN hb hg hat;have HN10:=mk0 hN;replace HX:=mk0 hb;have HK10:=mk0 (blk_below HK9.1 hb);have hz1:w10.cell? ⟨g,1,none⟩=some (.slice Aq t.f1.length cq):=(blk_cell HK10.1 1).trans rfl;have hf1:=blk_frozen HK10.1 1;clear hN hb hg hat)
                | fail)
            all_goals
              go_wp2
              refine ⟨⟨i + 1,⟨b,L2⟩,A9,c9,A10,c10,congrArg _ HWI.1,⟨HIT.1⟩,HIN3,⟨blk_put HK10.1 1 _ rfl⟩,⟨⟨HL9.1,(Kd.N_reads' HN10.1).2.1⟩⟩,⟨Kd.F_far (p:=⟨g,1,none⟩) (Kd.F_below HP9.1 HX.1) (fun k_ hk=>by have:=HGW2.1;show k_ ≠ g;omega) _⟩,⟨Kd.F_far (p:=⟨g,1,none⟩) (Kd.N_F HN10.1) (fun k_ hk=>by have:=HGW2.1;show k_ ≠ g;omega) _⟩,⟨below_set (below_step HX9.1 HX.1) HG2.1⟩⟩,?_⟩
              rw [HWI.1];simp only [intOf];have:=HIT.1;omega
          · rw [if_neg hb1] at hin
            have hbt:(Go.bits .and .i64 ((c:Int) / 2 ^ min i 64) 1 == 1)=false:=by
              rw [hbits]
              have:c / 2 ^ i % 2=0:=by omega
              rw [this];rfl
            have HIN2:=mk0 hin
            clear hin ha hdrop hbits hb1 hit HIN
            go_wp2
            refine ⟨⟨i + 1,t,Ap,cp,Aq,cq,congrArg _ HWI.1,⟨HIT.1⟩,HIN2,HBK,HTC,HP,HQ,HX⟩,?_⟩
            rw [HWI.1];simp only [intOf];have:=HIT.1;omega
        · have hd2:decide ((i:Int) < (x.length:Int))=false:=decide_eq_false (by omega)
          have hd2n:decide (i < x.length)=false:=decide_eq_false hit
          have hi:i=x.length:=by have:=HI.1;omega
          have hin:=HIN.1
          rw [hi,List.drop_length,refStar.inn] at hin
          obtain rfl:=Option.some.inj hin
          clear hin hi hit HIN
          go_wp2_with (first
            | ((with_reducible refine gate_dst (N:=65) rfl ?_);refine Kd.N_append k60 (w0:=w) w.heap.size rfl (.tmp 62) (.tmp 64) 22 60 (.agg #[.slice none 0 0,.slice none 0 0]) 48 (by rfl) Try.underlying22 info60 rfl (by decide) (by omega) u5 l t [.slice Ap t.f0.length cp,.slice Aq t.f1.length cq] (fun k_=>J k_ ∨ w.heap.size ≤ k_) (fun k_=>(J k_∧k_ < w.heap.size) ∨ (wr.heap.size ≤ k_∧k_ ≠ g)) (by rfl) (by rfl) (k60_mkF _ _ t HTC.1.1 HP.1 HTC.1.2 HQ.1) (fun k_ hk=>⟨hk.elim (fun h=>.inl h.1) (fun h=>.inr (Nat.le_trans HW0.1 h.1)),fun he=>by have h1:=Kd.N_lt HO.1 k_ he.symm;have h2:=Kd.N_base HO.1 k_ he.symm;omega⟩) (fun k_ hk=>.inr (Nat.le_trans (Nat.le_trans HW0.1 HX.1.size) hk)) (Kd.N_below HO.1 HX.1) (below_step HB.1 HX.1) (Nat.le_trans HW0.1 HX.1.size) (by have:=HL.1.2;have:=HC.1;have:=HM.1;omega) ?_;intro v9 w9 hN9 hb9 _ _;have HN9:=mk0 hN9;have HB9:=mk0 hb9;clear hN9 hb9))
          have HWC:Aside0 (wrap64 ((c:Int) + 1)=((c + 1:Nat):Int)):=⟨by have:=HC.1;have:=HM.1;unfold wrap64;omega⟩
          refine ⟨⟨c + 1,l ++ [t],s2,congrArg _ HWC.1,⟨by omega,HLT.1⟩,HS2,HL2,HN9,HB9⟩,?_⟩
          rw [HWC.1];simp only [intOf];have:=HLT.1;omega
    · have hd1:decide ((c:Int) < (refStar.m x:Int))=false:=decide_eq_false (by omega)
      have hd1n:decide (c < refStar.m x)=false:=decide_eq_false hlt
      have hc:c=refStar.m x:=by have:=HC.1;omega
      have hs:=HS.1
      rw [hc,Nat.sub_self,refStar.out] at hs
      obtain rfl:=Option.some.inj hs
      have hl:=HL.1.1
      rw [List.append_nil] at hl
      subst hl
      clear hs hlt hc HS
      go_wp2
      go_ret
      have hN:=HO.1
      obtain ⟨A,c,rfl⟩:=Kd.N_slice hN
      exact ⟨A,c,rfl,(Kd.N_reads' hN).2.1,Kd.N_F hN,HB.1⟩
end Go.Proofs.Ytkonljiembcdlaa.PC
namespace Go.Proofs.Ytkonljiembcdlaa.PC
open Go.Proofs.MyWords Go.RowKit Go.Proofs.YtkonljiembcdlaaW.PrintWords Go.Proofs.YtkonljiembcdlaaW.PrintLast Go.Proofs.YtkonljiembcdlaaW.PrintMore
attribute [local go_sem] max2_int min2_int max_two min_two max_three min_three max_four min_four   -- for this text's walks alone
set_option linter.unusedVariables false
set_option linter.unusedSimpArgs false
attribute [local go_sem] eqGuard_slices eqlnil23 neqnil23 eqlnil58 neqnil58
def bellpullref01_In.f (a0:Int) (a1:Int) (a2:Int):Option (Bool):=if a0 ≥ a1 then (some (decide (a0 ≤ a2))) else (some false)
set_option maxHeartbeats 8000000 in
set_option maxRecDepth 100000 in
theorem bellpullref01_In.calls (a0:Int) (a1:Int) (a2:Int) (r:Bool) (w:World) (h:bellpullref01_In.f a0 a1 a2=some r) :
    Calls Try.prog 20 #[.int .i64 a0,.int .i64 a1,.int .i64 a2] w fun e w'=>e=.returned (.bool r)∧Drawn0 w w':=by
 have H:(if a0 ≥ a1 then (some (decide (a0 ≤ a2))) else (some false))=some r:=h;clear h
 by_cases c4:a0 ≥ a1
 ·
  rw [if_pos c4] at H;have c4b0:decide (a1 ≤ a0)=true:=decide_eq_true c4;clear c4;obtain rfl:=Option.some.inj H;go_enter Try.func20,Try.ntmps20;go_wp2;go_ret;exact ⟨by first|rfl|(simp;done)|(simp [*];done),by repeat (first|exact Drawn0.refl _|apply Drawn0.step)⟩
 ·
  rw [if_neg c4] at H;have c4b0:decide (a1 ≤ a0)=false:=decide_eq_false c4;clear c4;obtain rfl:=Option.some.inj H;go_enter Try.func20,Try.ntmps20;go_wp2;go_ret;exact ⟨by first|rfl|(simp;done)|(simp [*];done),by repeat (first|exact Drawn0.refl _|apply Drawn0.step)⟩
end Go.Proofs.Ytkonljiembcdlaa.PC
namespace Go.Proofs.Ytkonljiembcdlaa.PC
open Go.Proofs.MyWords Go.RowKit Go.Proofs.YtkonljiembcdlaaW.PrintWords Go.Proofs.YtkonljiembcdlaaW.PrintLast Go.Proofs.YtkonljiembcdlaaW.PrintMore
attribute [local go_sem] max2_int min2_int max_two min_two max_three min_three max_four min_four   -- for this text's walks alone
set_option linter.unusedVariables false
set_option linter.unusedSimpArgs false
attribute [local go_sem] eqGuard_slices eqlnil23 neqnil23 eqlnil58 neqnil58
def bellpullref05_Long.l0:Nat → List (S60) → Int → Option (Bool)
  | 0,_,_=>none
  | k + 1,x0,x3=>if x3 < (x0.length:Int) then (if 0 ≤ x3 then (if (((rd_T60 x0 x3).f1).length:Int) > 4 then (some true) else (bellpullref05_Long.l0 k x0 (wrap64 (x3 + 1)))) else (none)) else (some (decide ((x0.length:Int) > 8)))
def bellpullref05_Long.f (k:Nat) (l0:List (S60)):Option (Bool):=bellpullref05_Long.l0 k l0 0
set_option maxHeartbeats 8000000 in
set_option maxRecDepth 100000 in
theorem bellpullref05_Long.calls (k:Nat) (A0:Option Addr) (c0:Nat) (I:List (S60)) (r:Bool) (w:World) (a1:Kd.C k60 w A0 I.length I) (a2:I.length ≤ c0) (h:bellpullref05_Long.f k I=some r) :
    Calls Try.prog 48 #[.slice A0 I.length c0] w fun e w'=>e=.returned (.bool r)∧Drawn0 w w':=by
 have a3:=mk0 a1;have a8:=mk0 a2;clear a1 a2;have H:(bellpullref05_Long.l0 k I 0)=some r:=h;clear h;have H':=mk0 H;clear H;go_enter Try.func48,Try.ntmps48;go_wp2
 go_loopg [3] k (fun kq v3 w'=>∃ (B:Int),v3=.int .i64 B∧Aside0 (bellpullref05_Long.l0 kq I B=some r)∧Aside0 (kq ≤ k)∧Drawn0 w w')
 case atStart=>exact ⟨(0),(by first|rfl|(simp;done)|(simp [*];done)),H',⟨Nat.le_refl _⟩,by repeat (first|exact Drawn0.refl _|apply Drawn0.step)⟩
 case round =>
  clear H';obtain ⟨B,rfl,HA,a4,⟨m1,rfl⟩⟩:=hrel;cases gk with
  | zero=>exact absurd HA.1 (by simp [bellpullref05_Long.l0])
  | succ k1 =>
   have H:=HA.1;clear HA;simp only [bellpullref05_Long.l0] at H
   by_cases c2:B < (I.length:Int)
   ·
    rw [if_pos c2] at H;have c2b0:decide (B < (I.length:Int))=true:=decide_eq_true c2;clear c2
    by_cases c3:0 ≤ B
    ·
     rw [if_pos c3] at H;have c3b0:decide (0 ≤ B)=true:=decide_eq_true c3;clear c3
     by_cases c4:(((rd_T60 I B).f1).length:Int) > 4
     ·
      rw [if_pos c4] at H;have c4b0:decide (4 < (((rd_T60 I B).f1).length:Int))=true:=decide_eq_true c4;have c4b1:decide (4 < ((rd_T60 I B).f1).length)=true:=decide_eq_true (by omega);clear c4;obtain rfl:=Option.some.inj H;have J:0 ≤ (B:Int):=of_decide_eq_true (by first|(with_reducible assumption)|assumption);have L:B < (I.length:Int):=of_decide_eq_true (by first|(with_reducible assumption)|assumption);obtain ⟨a0,V,X,Y,Z,M,N,O,D,E,F,G⟩:=at_T60 a3.1 B J L;cases M;have Q:=mk0 E;have R:=mk0 D;clear E D;have T:=mk0 G;have U:=mk0 F;clear G F;replace J:=eq_true J;replace L:=eq_true L;go_wp2;go_ret;exact ⟨by first|rfl|(simp;done)|(simp [*];done),by repeat (first|exact Drawn0.refl _|apply Drawn0.step)⟩
     ·
      rw [if_neg c4] at H;have c4b0:decide (4 < (((rd_T60 I B).f1).length:Int))=false:=decide_eq_false c4;have c4b1:decide (4 < ((rd_T60 I B).f1).length)=false:=decide_eq_false (by omega);clear c4;have H':=mk0 H;clear H;have J:0 ≤ (B:Int):=of_decide_eq_true (by first|(with_reducible assumption)|assumption);have L:B < (I.length:Int):=of_decide_eq_true (by first|(with_reducible assumption)|assumption);obtain ⟨a0,V,X,Y,Z,M,N,O,D,E,F,G⟩:=at_T60 a3.1 B J L;cases M;have Q:=mk0 E;have R:=mk0 D;clear E D;have T:=mk0 G;have U:=mk0 F;clear G F;replace J:=eq_true J;replace L:=eq_true L;go_wp2;go_roundg k1
      case measure=>have:=a4.1;omega
      case rel=>exact ⟨(wrap64 (B + 1)),(by first|rfl|(simp;done)|(simp [*];done)),H',⟨by have:=a4.1;omega⟩,by repeat (first|exact Drawn0.refl _|apply Drawn0.step)⟩
    ·
     rw [if_neg c3] at H;exact absurd H (by simp)
   ·
    rw [if_neg c2] at H;have c2b0:decide (B < (I.length:Int))=false:=decide_eq_false c2;clear c2;obtain rfl:=Option.some.inj H;go_wp2;go_ret;exact ⟨by first|rfl|(simp;done)|(simp [*];done),by repeat (first|exact Drawn0.refl _|apply Drawn0.step)⟩
end Go.Proofs.Ytkonljiembcdlaa.PC
namespace Go.Proofs.Ytkonljiembcdlaa.PC
open Go.Proofs.MyWords Go.RowKit Go.Proofs.YtkonljiembcdlaaW.PrintWords Go.Proofs.YtkonljiembcdlaaW.PrintLast Go.Proofs.YtkonljiembcdlaaW.PrintMore
attribute [local go_sem] max2_int min2_int max_two min_two max_three min_three max_four min_four   -- for this text's walks alone
set_option linter.unusedVariables false
set_option linter.unusedSimpArgs false
attribute [local go_sem] eqGuard_slices eqlnil23 neqnil23 eqlnil58 neqnil58
def bellpullref05_wide.l0:Nat → List Int → Int → Int → Option (Bool)
  | 0,_,_,_=>none
  | k + 1,x0,x1,x5=>if x5 < (x0.length:Int) then (if 0 ≤ x5 then ((bellpullref01_In.f (rd x0 x5) 0 x1).bind fun t386=>(if t386=true then (bellpullref05_wide.l0 k x0 x1 (wrap64 (x5 + 1))) else (some true))) else (none)) else (some false)
def bellpullref05_wide.f (k:Nat) (l0:List Int) (a1:Int):Option (Bool):=bellpullref05_wide.l0 k l0 a1 0
set_option maxHeartbeats 8000000 in
set_option maxRecDepth 100000 in
theorem bellpullref05_wide.calls (k:Nat) (X:Option Addr) (Y:Nat) (D:List Int) (G:Int) (r:Bool) (w:World) (O:Kd.C (Kd.int .i64) w X D.length D) (Q:D.length ≤ Y) (h:bellpullref05_wide.f k D G=some r) :
    Calls Try.prog 85 #[.slice X D.length Y,.int .i64 G] w fun e w'=>e=.returned (.bool r)∧Drawn0 w w':=by
 have R:=mk0 O;have a2:=mk0 Q;clear O Q;have H:(bellpullref05_wide.l0 k D G 0)=some r:=h;clear h;have H':=mk0 H;clear H;go_enter Try.func85,Try.ntmps85;go_wp2
 go_loopg [5] k (fun kq v5 w'=>∃ (B:Int),v5=.int .i64 B∧Aside0 (bellpullref05_wide.l0 kq D G B=some r)∧Aside0 (kq ≤ k)∧Drawn0 w w')
 case atStart=>exact ⟨(0),(by first|rfl|(simp;done)|(simp [*];done)),H',⟨Nat.le_refl _⟩,by repeat (first|exact Drawn0.refl _|apply Drawn0.step)⟩
 case round =>
  clear H';try clear p2
  obtain ⟨B,rfl,HA,T,⟨m1,rfl⟩⟩:=hrel;cases gk with
  | zero=>exact absurd HA.1 (by simp [bellpullref05_wide.l0])
  | succ k1 =>
   have H:=HA.1;clear HA;simp only [bellpullref05_wide.l0] at H
   by_cases c3:B < (D.length:Int)
   ·
    rw [if_pos c3] at H;have c3b0:decide (B < (D.length:Int))=true:=decide_eq_true c3;clear c3
    by_cases c4:0 ≤ B
    ·
     rw [if_pos c4] at H;have c4b0:decide (0 ≤ B)=true:=decide_eq_true c4;clear c4;replace H:=Option.bind_eq_some_iff.mp H;obtain ⟨V,U,H⟩:=H;(try dsimp only at H);have Z:=mk0 U;clear U
     by_cases M:V=true
     ·
      subst M;have L:(bellpullref05_wide.l0 k1 D G (wrap64 (B + 1)))=some r:=by rw [if_pos rfl] at H;exact H
      clear H;have H:=L;clear L;have H':=mk0 H;clear H;have E:0 ≤ (B:Int):=of_decide_eq_true (by first|(with_reducible assumption)|assumption);have F:B < (D.length:Int):=of_decide_eq_true (by first|(with_reducible assumption)|assumption);obtain ⟨N,I,J⟩:=Kd.at_int R.1 B E F;cases I;replace E:=eq_true E;replace F:=eq_true F;go_wp2_with (first|((with_reducible refine gate_callee (f:=20) rfl ?_);refine goesL_ (some 17) rfl rfl Try.func20 (by kernel_rfl) rfl #[.int .i64 (rd D B),.int .i64 0,.int .i64 G] rfl (by (try simp only [m0_,m1_,m2_]);first|done|rfl|(simp only [l0_,l1_];rfl)) ?_;(with_reducible refine (bellpullref01_In.calls (rd D B) 0 G true _ Z.1).mono ?_);rintro e w' ⟨rfl,⟨nd,rfl⟩⟩;refine ⟨_,rfl,?_⟩));go_roundg k1
      case measure=>have:=T.1;omega
      case rel=>exact ⟨(wrap64 (B + 1)),(by first|rfl|(simp;done)|(simp [*];done)),H',⟨by have:=T.1;omega⟩,by repeat (first|exact Drawn0.refl _|apply Drawn0.step)⟩
     ·
      replace M:=Bool.eq_false_iff.mpr M;subst M;have L:(some true)=some r:=by rw [if_neg (show ¬ (false=true) by decide)] at H;exact H
      clear H;have H:=L;clear L;obtain rfl:=Option.some.inj H;have E:0 ≤ (B:Int):=of_decide_eq_true (by first|(with_reducible assumption)|assumption);have F:B < (D.length:Int):=of_decide_eq_true (by first|(with_reducible assumption)|assumption);obtain ⟨N,I,J⟩:=Kd.at_int R.1 B E F;cases I;replace E:=eq_true E;replace F:=eq_true F;go_wp2_with (first|((with_reducible refine gate_callee (f:=20) rfl ?_);refine goesL_ (some 17) rfl rfl Try.func20 (by kernel_rfl) rfl #[.int .i64 (rd D B),.int .i64 0,.int .i64 G] rfl (by (try simp only [m0_,m1_,m2_]);first|done|rfl|(simp only [l0_,l1_];rfl)) ?_;(with_reducible refine (bellpullref01_In.calls (rd D B) 0 G false _ Z.1).mono ?_);rintro e w' ⟨rfl,⟨nd,rfl⟩⟩;refine ⟨_,rfl,?_⟩));go_ret;exact ⟨by first|rfl|(simp;done)|(simp [*];done),by repeat (first|exact Drawn0.refl _|apply Drawn0.step)⟩
    ·
     rw [if_neg c4] at H;exact absurd H (by simp)
   ·
    rw [if_neg c3] at H;have c3b0:decide (B < (D.length:Int))=false:=decide_eq_false c3;clear c3;obtain rfl:=Option.some.inj H;go_wp2;go_ret;exact ⟨by first|rfl|(simp;done)|(simp [*];done),by repeat (first|exact Drawn0.refl _|apply Drawn0.step)⟩
end Go.Proofs.Ytkonljiembcdlaa.PC
namespace Go.Proofs.Ytkonljiembcdlaa.PC
open Go.Proofs.MyWords Go.RowKit Go.Proofs.YtkonljiembcdlaaW.PrintWords Go.Proofs.YtkonljiembcdlaaW.PrintLast Go.Proofs.YtkonljiembcdlaaW.PrintMore
attribute [local go_sem] max2_int min2_int max_two min_two max_three min_three max_four min_four   -- for this text's walks alone
set_option linter.unusedVariables false
set_option linter.unusedSimpArgs false
attribute [local go_sem] eqGuard_slices eqlnil23 neqnil23 eqlnil58 neqnil58
mutual
def bellpullref05_Wide.l0:Nat → List (S60) → Int → Option (Bool)
  | 0,_,_=>none
  | k + 1,x1,x5=>if x5 < (x1.length:Int) then (if 0 ≤ x5 then ((bellpullref05_vectors.f ((rd_T60 x1 x5).f0) ((rd_T60 x1 x5).f1)).bind fun t389=>(bellpullref05_Wide.l1 k x1 x5 t389 0)) else (none)) else (some false)
def bellpullref05_Wide.l1:Nat → List (S60) → Int → List (List Int) → Int → Option (Bool)
  | 0,_,_,_,_=>none
  | k + 1,x1,x5,x6,x7=>if x7 < (x6.length:Int) then (if 0 ≤ x7 then ((bellpullref05_wide.f k (rd_L1 x6 x7) 20).bind fun t393=>(if t393=true then (some true) else (bellpullref05_Wide.l1 k x1 x5 x6 (wrap64 (x7 + 1))))) else (none)) else (bellpullref05_Wide.l0 k x1 (wrap64 (x5 + 1)))
end
def bellpullref05_Wide.f (k:Nat) (a0:Int) (l1:List (S60)):Option (Bool):=(bellpullref01_In.f a0 1 3).bind fun t387=>(if t387=true then (bellpullref05_Wide.l0 k l1 0) else (some true))
set_option maxHeartbeats 8000000 in
set_option maxRecDepth 100000 in
theorem bellpullref05_Wide.calls (k:Nat) (a0:Int) (A1:Option Addr) (c1:Nat) (U:List (S60)) (r:Bool) (w:World) (e5:Kd.C k60 w A1 U.length U) (e6:U.length ≤ c1) (h:bellpullref05_Wide.f k a0 U=some r) :
    Calls Try.prog 49 #[.int .i64 a0,.slice A1 U.length c1] w fun e w'=>e=.returned (.bool r)∧Below w.heap.size w w':=by
 have g3:=Try.underlying60;have g0:=mk0 e5;have h3:=mk0 e6;clear e5 e6;have G:=mk0 (Below.refl w.heap.size w);have H:((bellpullref01_In.f a0 1 3).bind fun b5=>(if b5=true then (bellpullref05_Wide.l0 k U 0) else (some true)))=some r:=h;clear h;replace H:=Option.bind_eq_some_iff.mp H;obtain ⟨b5,e7,H⟩:=H;(try dsimp only at H);have A3:=mk0 e7;clear e7;by_cases c4:b5=true
 ·
  (subst c4;have H1:(bellpullref05_Wide.l0 k U 0)=some r:=by rw [if_pos rfl] at H;exact H);clear H;have H:=H1;clear H1;have H':=mk0 H;clear H;go_enter Try.func49,Try.ntmps49;go_wp2_with (first|((with_reducible refine gate_callee (f:=20) rfl ?_);refine goesL_ (some 9) rfl rfl Try.func20 (by kernel_rfl) rfl #[.int .i64 a0,.int .i64 1,.int .i64 3] rfl (by (try simp only [m0_,m1_,m2_]);first|done|rfl|(simp only [l0_,l1_];rfl)) ?_;(with_reducible refine (bellpullref01_In.calls a0 1 3 true _ A3.1).mono ?_);rintro e w' ⟨rfl,⟨nd,rfl⟩⟩;refine ⟨_,rfl,?_⟩));go_loopg [5] k (fun kq v5 w'=>∃ (D:Int),v5=.int .i64 D∧Aside0 (bellpullref05_Wide.l0 kq U D=some r)∧Aside0 (kq ≤ k)∧Aside0 (Below w.heap.size w w'));case atStart=>exact ⟨(0),(by first|rfl|(simp;done)|(simp [*];done)),H',⟨Nat.le_refl _⟩,⟨by repeat (first|(with_reducible first|exact G.1|apply below_alloc|apply pw_below_drewN|apply below_drew1)|exact G.1)⟩⟩
  case round =>
   (clear H';try clear c1);(try clear c2);(try clear p2);try clear c4
   obtain ⟨D,rfl,HA,b7,G⟩:=hrel;cases gk with
   | zero=>exact absurd HA.1 (by simp [bellpullref05_Wide.l0])
   | succ k1 =>
    have H:=HA.1;clear HA;simp only [bellpullref05_Wide.l0] at H;by_cases c5:D < (U.length:Int)
    ·
     rw [if_pos c5] at H;have c5b0:decide (D < (U.length:Int))=true:=decide_eq_true c5;clear c5;by_cases c6:0 ≤ D
     ·
      rw [if_pos c6] at H;have c6b0:decide (0 ≤ D)=true:=decide_eq_true c6;clear c6;replace H:=Option.bind_eq_some_iff.mp H;obtain ⟨F,e8,H⟩:=H;(try dsimp only at H);have A7:=mk0 e8;clear e8;have H':=mk0 H;clear H;have b2:0 ≤ (D:Int):=of_decide_eq_true (by assumption);have b3:D < (U.length:Int):=of_decide_eq_true (by assumption);obtain ⟨g2,d6,d7,d8,d9,f3,Y,Z,a8,a9,b0,b1⟩:=at_T60 g0.1 D b2 b3;cases f3;replace Y:=bd_ G Y;replace Z:=bd_ G Z;have c8:=mk0 a9;have d0:=mk0 a8;clear a9 a8;have d1:=mk0 b1;have d2:=mk0 b0;clear b1 b0;replace b2:=eq_true b2;replace b3:=eq_true b3;go_wp2_with (first|((with_reducible refine gate_callee (f:=75) rfl ?_);refine goesL_ (some 21) rfl rfl Try.func75 (by kernel_rfl) rfl #[.agg #[.slice d6 ((rd_T60 U D).f0).length d7,.slice d8 ((rd_T60 U D).f1).length d9]] rfl (by (try simp only [m0_,m1_,m2_]);first|done|rfl|(simp only [l0_,l1_];rfl)) ?_;(with_reducible refine (bellpullref05_vectors.calls (fun k_=>k_ < w.heap.size) _ _ ((rd_T60 U D).f0) (fun k_=>k_ < w.heap.size) _ _ ((rd_T60 U D).f1) F _ ?side1 ?side2 A7.1).mono ?_);(case side1=>exact Kd.V_mk d0.1 (Kd.F_below (Kd.C_F (Kd.heap_int .i64) c8.1) (by exact G.1)));(case side2=>exact Kd.V_mk d2.1 (Kd.F_below (Kd.C_F (Kd.heap_slice 3 (Kd.heap_int .i64)) d1.1) (by exact G.1)));rintro e w8 ⟨f4,rfl,e9,hb⟩;refine ⟨_,rfl,?_⟩;have e2:=mk0 (Kd.N_lower (Kd.N_mono (ok':=fun k_=>True) e9 (fun k_ hk_=>trivial)) (below_size (by exact G.1)));replace G:=mk0 (below_step (by exact G.1) hb);(try clear hb);(try clear e9)));go_loopg [7] k1 (fun kq v7 w'=>∃ (B:Int),v7=.int .i64 B∧Aside0 (bellpullref05_Wide.l1 kq U D F B=some r)∧Aside0 (kq ≤ k1)∧Aside0 (Kd.N (Kd.slice 3 (Kd.int .i64)) 23 w' w.heap.size (fun _=>True) f4 F)∧Aside0 (Below w.heap.size w w'));case atStart=>exact ⟨(0),(by first|rfl|(simp;done)|(simp [*];done)),H',⟨Nat.le_refl _⟩,⟨by exact e2.1⟩,⟨by exact G.1⟩⟩
      case round =>
       (clear H';try clear c1);(try clear c2);(try clear p2);(try clear c3);(try clear p3);(try clear q3);(try clear hx3);(try clear c4);(try clear c5);(try clear c5b0);(try clear c6);(try clear c6b0);(try clear c7);(try clear Y);(try clear Z);(try clear p2);(try clear b2);try clear b3
       obtain ⟨B,rfl,HA,b8,L,G⟩:=hrel;cases gk with
       | zero=>exact absurd HA.1 (by simp [bellpullref05_Wide.l1])
       | succ k2 =>have H:=HA.1;clear HA;simp only [bellpullref05_Wide.l1] at H;by_cases c9:B < (F.length:Int);(· rw [if_pos c9] at H;have c9b0:decide (B < (F.length:Int))=true:=decide_eq_true c9;clear c9;by_cases c10:0 ≤ B;(· rw [if_pos c10] at H;have c10b0:decide (0 ≤ B)=true:=decide_eq_true c10;clear c10;replace H:=Option.bind_eq_some_iff.mp H;obtain ⟨f5,e0,H⟩:=H;(try dsimp only at H);have f2:=mk0 e0;clear e0;by_cases b9:f5=true;(· (subst b9;have H1:(some true)=some r:=by rw [if_pos rfl] at H;exact H);clear H;have H:=H1;clear H1;obtain rfl:=Option.some.inj H;obtain ⟨g7,g8,f6⟩:=Kd.N_slice L.1;subst f6;have R:0 ≤ (B:Int):=of_decide_eq_true (by first|(with_reducible assumption)|assumption);have T:B < (F.length:Int):=of_decide_eq_true (by first|(with_reducible assumption)|assumption);obtain ⟨e3,a4,a5,b6,a1,M,O⟩:=at_L1 (Kd.N_reads' L.1).2.2 B R T;cases b6;obtain ⟨e4,a6,a7,X⟩:=Kd.N_get L.1 [] B R (by first|exact T|exact of_decide_eq_true (by first|(with_reducible assumption)|assumption)|(have e_:=(Kd.N_reads' L.1).1;omega));obtain ⟨d3,d4,rfl,I,J⟩:=Kd.FK_slice_open a7;have E:=X 0 _ rfl;rw [Nat.add_zero,show ((Kd.slice 3 (Kd.int .i64))).sz=1 from rfl,Nat.mul_one] at E;replace E:=Option.some.inj (E.symm.trans a1);injection E with hva_ hvn_ hvc_;rw [hva_] at J;rw [hvc_] at I;have d5:=mk0 (show Kd.V (Kd.int .i64) 3 _ w.heap.size _ _ (rd_L1 F B) from Kd.V_mk I J);clear hva_ hvn_ hvc_ J I;clear X a6;have Q:=mk0 O;have a2:=mk0 M;clear O M;replace R:=eq_true R;replace T:=eq_true T;go_wp2_with (first|((with_reducible refine gate_callee (f:=85) rfl ?_);refine goesL_ (some 32) rfl rfl Try.func85 (by kernel_rfl) rfl #[.slice a4 (rd_L1 F B).length a5,.int .i64 20] rfl (by (try simp only [m0_,m1_,m2_]);first|done|rfl|(simp only [l0_,l1_];rfl)) ?_;(with_reducible refine (bellpullref05_wide.calls k2 _ _ (rd_L1 F B) 20 true _ ?side1 ?side2 f2.1).mono ?_);(case side1=>repeat (first|exact (by repeat (first|(with_reducible exact Q.1)|(with_reducible refine Kd.C_alloc ?_ _)|(with_reducible refine Kd.C_drewN ?_ _)|(with_reducible refine Kd.C_drew ?_)|exact Q.1))|(with_reducible refine Kd.C_alloc ?_ _)|(with_reducible refine Kd.C_drewN ?_ _)|(with_reducible refine Kd.C_drew ?_)));(case side2=>exact a2.1);rintro e w' ⟨rfl,⟨nd,rfl⟩⟩;refine ⟨_,rfl,?_⟩));go_ret;exact ⟨by first|rfl|(simp [errW_none,errW_some] <;> rfl)|(simp [*,errW_none,errW_some] <;> rfl),by repeat (first|(with_reducible first|exact G.1|apply below_alloc|apply pw_below_drewN|apply below_drew1)|exact G.1)⟩);· (replace b9:=Bool.eq_false_iff.mpr b9;subst b9;have H1:(bellpullref05_Wide.l1 k2 U D F (wrap64 (B + 1)))=some r:=by rw [if_neg (show ¬ (false=true) by decide)] at H;exact H);clear H;have H:=H1;clear H1;have H':=mk0 H;clear H;obtain ⟨g9,h0,f7⟩:=Kd.N_slice L.1;subst f7;have R:0 ≤ (B:Int):=of_decide_eq_true (by assumption);have T:B < (F.length:Int):=of_decide_eq_true (by assumption);obtain ⟨e3,a4,a5,b6,a1,M,O⟩:=at_L1 (Kd.N_reads' L.1).2.2 B R T;cases b6;obtain ⟨e4,a6,a7,X⟩:=Kd.N_get L.1 [] B R (by first|exact T|exact of_decide_eq_true (by assumption)|(have e_:=(Kd.N_reads' L.1).1;omega));obtain ⟨d3,d4,rfl,I,J⟩:=Kd.FK_slice_open a7;have E:=X 0 _ rfl;rw [Nat.add_zero,show ((Kd.slice 3 (Kd.int .i64))).sz=1 from rfl,Nat.mul_one] at E;replace E:=Option.some.inj (E.symm.trans a1);injection E with hva_ hvn_ hvc_;rw [hva_] at J;rw [hvc_] at I;have d5:=mk0 (show Kd.V (Kd.int .i64) 3 _ w.heap.size _ _ (rd_L1 F B) from Kd.V_mk I J);clear hva_ hvn_ hvc_ J I;clear X a6;have Q:=mk0 O;have a2:=mk0 M;clear O M;replace R:=eq_true R;replace T:=eq_true T;go_wp2_with (first|((with_reducible refine gate_callee (f:=85) rfl ?_);refine goesL_ (some 32) rfl rfl Try.func85 (by kernel_rfl) rfl #[.slice a4 (rd_L1 F B).length a5,.int .i64 20] rfl (by (try simp only [m0_,m1_,m2_]);first|done|rfl|(simp only [l0_,l1_];rfl)) ?_;(with_reducible refine (bellpullref05_wide.calls k2 _ _ (rd_L1 F B) 20 false _ ?side1 ?side2 f2.1).mono ?_);(case side1=>repeat (first|exact (by repeat (first|(with_reducible exact Q.1)|(with_reducible refine Kd.C_alloc ?_ _)|(with_reducible refine Kd.C_drewN ?_ _)|(with_reducible refine Kd.C_drew ?_)|exact Q.1))|(with_reducible refine Kd.C_alloc ?_ _)|(with_reducible refine Kd.C_drewN ?_ _)|(with_reducible refine Kd.C_drew ?_)));(case side2=>exact a2.1);rintro e w' ⟨rfl,⟨nd,rfl⟩⟩;refine ⟨_,rfl,?_⟩));go_roundg k2;(case measure=>have:=b7.1;have:=b8.1;omega);case rel=>exact ⟨(wrap64 (B + 1)),(by first|rfl|(simp;done)|(simp [*];done)),H',⟨by have:=b7.1;have:=b8.1;omega⟩,⟨by (with_reducible repeat (first|apply Kd.N_alloc|apply Kd.N_drewN|apply Kd.N_drew));exact L.1⟩,⟨by repeat (first|(with_reducible first|exact G.1|apply below_alloc|apply pw_below_drewN|apply below_drew1)|exact G.1)⟩⟩);· rw [if_neg c10] at H;exact absurd H (by simp));· rw [if_neg c9] at H;have c9b0:decide (B < (F.length:Int))=false:=decide_eq_false c9;clear c9;have H':=mk0 H;clear H;obtain ⟨h1,h2,f8⟩:=Kd.N_slice L.1;subst f8;go_wp2;go_roundg k2;(case measure=>have:=b7.1;have:=b8.1;omega);case rel=>exact ⟨(wrap64 (D + 1)),(by first|rfl|(simp;done)|(simp [*];done)),H',⟨by have:=b7.1;have:=b8.1;omega⟩,⟨by exact G.1⟩⟩
     · rw [if_neg c6] at H;exact absurd H (by simp)
    · rw [if_neg c5] at H;have c5b0:decide (D < (U.length:Int))=false:=decide_eq_false c5;clear c5;obtain rfl:=Option.some.inj H;go_wp2;go_ret;exact ⟨by first|rfl|(simp [errW_none,errW_some] <;> rfl)|(simp [*,errW_none,errW_some] <;> rfl),by exact G.1⟩
 · (replace c4:=Bool.eq_false_iff.mpr c4;subst c4;have H1:(some true)=some r:=by rw [if_neg (show ¬ (false=true) by decide)] at H;exact H);clear H;have H:=H1;clear H1;obtain rfl:=Option.some.inj H;go_enter Try.func49,Try.ntmps49;go_wp2_with (first|((with_reducible refine gate_callee (f:=20) rfl ?_);refine goesL_ (some 9) rfl rfl Try.func20 (by kernel_rfl) rfl #[.int .i64 a0,.int .i64 1,.int .i64 3] rfl (by (try simp only [m0_,m1_,m2_]);first|done|rfl|(simp only [l0_,l1_];rfl)) ?_;(with_reducible refine (bellpullref01_In.calls a0 1 3 false _ A3.1).mono ?_);rintro e w' ⟨rfl,⟨nd,rfl⟩⟩;refine ⟨_,rfl,?_⟩));go_ret;exact ⟨by first|rfl|(simp [errW_none,errW_some] <;> rfl)|(simp [*,errW_none,errW_some] <;> rfl),by repeat (first|(with_reducible first|exact G.1|apply below_alloc|apply pw_below_drewN|apply below_drew1)|exact G.1)⟩
end Go.Proofs.Ytkonljiembcdlaa.PC
namespace Go.Proofs.Ytkonljiembcdlaa.PC
open Go.Proofs.MyWords Go.RowKit Go.Proofs.YtkonljiembcdlaaW.PrintWords Go.Proofs.YtkonljiembcdlaaW.PrintLast Go.Proofs.YtkonljiembcdlaaW.PrintMore
attribute [local go_sem] max2_int min2_int max_two min_two max_three min_three max_four min_four   -- for this text's walks alone
set_option linter.unusedVariables false
set_option linter.unusedSimpArgs false
attribute [local go_sem] eqGuard_slices eqlnil23 neqnil23 eqlnil58 neqnil58
mutual
def bellpullref05_Odd.l0:Nat → Int → List (S60) → Int → Option (Bool)
  | 0,_,_,_=>none
  | k + 1,x0,x1,x5=>if x5 < (x1.length:Int) then (if 0 ≤ x5 then ((bellpullref05_vectors.f ((rd_T60 x1 x5).f0) ((rd_T60 x1 x5).f1)).bind fun t395=>(bellpullref05_Odd.l1 k x0 x1 x5 t395 0)) else (none)) else (some false)
def bellpullref05_Odd.l1:Nat → Int → List (S60) → Int → List (List Int) → Int → Option (Bool)
  | 0,_,_,_,_,_=>none
  | k + 1,x0,x1,x5,x6,x7=>if x7 < (x6.length:Int) then (if 0 ≤ x7 then (if ((rd_L1 x6 x7).length:Int)=x0 then (bellpullref05_Odd.l1 k x0 x1 x5 x6 (wrap64 (x7 + 1))) else (some true)) else (none)) else (bellpullref05_Odd.l0 k x0 x1 (wrap64 (x5 + 1)))
end
def bellpullref05_Odd.f (k:Nat) (a0:Int) (l1:List (S60)):Option (Bool):=bellpullref05_Odd.l0 k a0 l1 0
set_option maxHeartbeats 8000000 in
set_option maxRecDepth 100000 in
theorem bellpullref05_Odd.calls (k:Nat) (a0:Int) (A1:Option Addr) (c1:Nat) (Y:List (S60)) (r:Bool) (w:World) (d9:Kd.C k60 w A1 Y.length Y) (e0:Y.length ≤ c1) (h:bellpullref05_Odd.f k a0 Y=some r) :
    Calls Try.prog 50 #[.int .i64 a0,.slice A1 Y.length c1] w fun e w'=>e=.returned (.bool r)∧Below w.heap.size w w':=by
 have f3:=Try.underlying60;have e9:=mk0 d9;have g3:=mk0 e0;clear d9 e0;have J:=mk0 (Below.refl w.heap.size w);have H:(bellpullref05_Odd.l0 k a0 Y 0)=some r:=h;clear h;have H':=mk0 H;clear H;go_enter Try.func50,Try.ntmps50;go_wp2;go_loopg [5] k (fun kq v5 w'=>∃ (D:Int),v5=.int .i64 D∧Aside0 (bellpullref05_Odd.l0 kq a0 Y D=some r)∧Aside0 (kq ≤ k)∧Aside0 (Below w.heap.size w w'));case atStart=>exact ⟨(0),(by first|rfl|(simp;done)|(simp [*];done)),H',⟨Nat.le_refl _⟩,⟨by exact J.1⟩⟩
 case round =>
  (clear H';try clear c1);try clear p2
  obtain ⟨D,rfl,HA,b1,J⟩:=hrel;cases gk with
  | zero=>exact absurd HA.1 (by simp [bellpullref05_Odd.l0])
  | succ k1 =>
   have H:=HA.1;clear HA;simp only [bellpullref05_Odd.l0] at H;by_cases c3:D < (Y.length:Int)
   ·
    rw [if_pos c3] at H;have c3b0:decide (D < (Y.length:Int))=true:=decide_eq_true c3;clear c3;by_cases c4:0 ≤ D
    ·
     rw [if_pos c4] at H;have c4b0:decide (0 ≤ D)=true:=decide_eq_true c4;clear c4;replace H:=Option.bind_eq_some_iff.mp H;obtain ⟨F,e1,H⟩:=H;(try dsimp only at H);have A5:=mk0 e1;clear e1;have H':=mk0 H;clear H;have a8:0 ≤ (D:Int):=of_decide_eq_true (by assumption);have a9:D < (Y.length:Int):=of_decide_eq_true (by assumption);obtain ⟨f2,c6,d0,d1,d2,e3,U,X,a4,a5,a6,a7⟩:=at_T60 e9.1 D a8 a9;cases e3;replace U:=bd_ J U;replace X:=bd_ J X;have b3:=mk0 a5;have b4:=mk0 a4;clear a5 a4;have b5:=mk0 a7;have b6:=mk0 a6;clear a7 a6;replace a8:=eq_true a8;replace a9:=eq_true a9;go_wp2_with (first|((with_reducible refine gate_callee (f:=75) rfl ?_);refine goesL_ (some 18) rfl rfl Try.func75 (by kernel_rfl) rfl #[.agg #[.slice c6 ((rd_T60 Y D).f0).length d0,.slice d1 ((rd_T60 Y D).f1).length d2]] rfl (by (try simp only [m0_,m1_,m2_]);first|done|rfl|(simp only [l0_,l1_];rfl)) ?_;(with_reducible refine (bellpullref05_vectors.calls (fun k_=>k_ < w.heap.size) _ _ ((rd_T60 Y D).f0) (fun k_=>k_ < w.heap.size) _ _ ((rd_T60 Y D).f1) F _ ?side1 ?side2 A5.1).mono ?_);(case side1=>exact Kd.V_mk b4.1 (Kd.F_below (Kd.C_F (Kd.heap_int .i64) b3.1) J.1));(case side2=>exact Kd.V_mk b6.1 (Kd.F_below (Kd.C_F (Kd.heap_slice 3 (Kd.heap_int .i64)) b5.1) J.1));rintro e w6 ⟨e4,rfl,e2,hb⟩;refine ⟨_,rfl,?_⟩;have d6:=mk0 (Kd.N_lower (Kd.N_mono (ok':=fun k_=>True) e2 (fun k_ hk_=>trivial)) (below_size J.1));replace J:=bst J hb;(try clear hb);(try clear e2)));go_loopg [7] k1 (fun kq v7 w'=>∃ (B:Int),v7=.int .i64 B∧Aside0 (bellpullref05_Odd.l1 kq a0 Y D F B=some r)∧Aside0 (kq ≤ k1)∧Aside0 (Kd.N (Kd.slice 3 (Kd.int .i64)) 23 w' w.heap.size (fun _=>True) e4 F)∧Aside0 (Below w.heap.size w w'));case atStart=>exact ⟨(0),(by first|rfl|(simp;done)|(simp [*];done)),H',⟨Nat.le_refl _⟩,⟨by exact d6.1⟩,⟨by exact J.1⟩⟩
     case round =>
      (clear H';try clear c1);(try clear p2);(try clear c3);(try clear c3b0);(try clear p3);(try clear q3);(try clear hx3);(try clear c4);(try clear c4b0);(try clear c5);(try clear U);(try clear X);(try clear p2);(try clear a8);try clear a9
      obtain ⟨B,rfl,HA,b2,L,J⟩:=hrel;cases gk with
      | zero=>exact absurd HA.1 (by simp [bellpullref05_Odd.l1])
      | succ k2 =>have H:=HA.1;clear HA;simp only [bellpullref05_Odd.l1] at H;by_cases c7:B < (F.length:Int);(· rw [if_pos c7] at H;have c7b0:decide (B < (F.length:Int))=true:=decide_eq_true c7;clear c7;by_cases c8:0 ≤ B;(· rw [if_pos c8] at H;have c8b0:decide (0 ≤ B)=true:=decide_eq_true c8;clear c8;by_cases c9:((rd_L1 F B).length:Int)=a0;(· rw [if_pos c9] at H;have c9b0:(((rd_L1 F B).length:Int) == a0)=true:=beq_iff_eq.mpr c9;have c9b1:(((rd_L1 F B).length:Int) != a0)=false:=bne_eq_false_iff_eq.mpr c9;clear c9;have H':=mk0 H;clear H;obtain ⟨f7,f8,e5⟩:=Kd.N_slice L.1;subst e5;have Q:0 ≤ (B:Int):=of_decide_eq_true (by assumption);have R:B < (F.length:Int):=of_decide_eq_true (by assumption);obtain ⟨d7,d3,d4,b0,Z,M,O⟩:=at_L1 (Kd.N_reads' L.1).2.2 B Q R;cases b0;obtain ⟨d8,a1,a2,T⟩:=Kd.N_get L.1 [] B Q (by first|exact R|exact of_decide_eq_true (by assumption)|(have e_:=(Kd.N_reads' L.1).1;omega));obtain ⟨b7,b8,rfl,G,I⟩:=Kd.FK_slice_open a2;have E:=T 0 _ rfl;rw [Nat.add_zero,show ((Kd.slice 3 (Kd.int .i64))).sz=1 from rfl,Nat.mul_one] at E;replace E:=Option.some.inj (E.symm.trans Z);injection E with hva_ hvn_ hvc_;rw [hva_] at I;rw [hvc_] at G;have b9:=mk0 (show Kd.V (Kd.int .i64) 3 _ w.heap.size _ _ (rd_L1 F B) from Kd.V_mk G I);clear hva_ hvn_ hvc_ I G;clear T a1;have c0:=mk0 O;have c2:=mk0 M;clear O M;replace Q:=eq_true Q;replace R:=eq_true R;go_wp2;go_roundg k2;(case measure=>have:=b1.1;have:=b2.1;omega);case rel=>exact ⟨(wrap64 (B + 1)),(by first|rfl|(simp;done)|(simp [*];done)),H',⟨by have:=b1.1;have:=b2.1;omega⟩,⟨by exact L.1⟩,⟨by exact J.1⟩⟩);· rw [if_neg c9] at H;have c9b0:(((rd_L1 F B).length:Int) == a0)=false:=beq_eq_false_iff_ne.mpr c9;have c9b1:(((rd_L1 F B).length:Int) != a0)=true:=bne_iff_ne.mpr c9;obtain rfl:=Option.some.inj H;obtain ⟨f9,g0,e6⟩:=Kd.N_slice L.1;subst e6;have Q:0 ≤ (B:Int):=of_decide_eq_true (by assumption);have R:B < (F.length:Int):=of_decide_eq_true (by assumption);obtain ⟨d7,d3,d4,b0,Z,M,O⟩:=at_L1 (Kd.N_reads' L.1).2.2 B Q R;cases b0;obtain ⟨d8,a1,a2,T⟩:=Kd.N_get L.1 [] B Q (by first|exact R|exact of_decide_eq_true (by assumption)|(have e_:=(Kd.N_reads' L.1).1;omega));obtain ⟨b7,b8,rfl,G,I⟩:=Kd.FK_slice_open a2;have E:=T 0 _ rfl;rw [Nat.add_zero,show ((Kd.slice 3 (Kd.int .i64))).sz=1 from rfl,Nat.mul_one] at E;replace E:=Option.some.inj (E.symm.trans Z);injection E with hva_ hvn_ hvc_;rw [hva_] at I;rw [hvc_] at G;have b9:=mk0 (show Kd.V (Kd.int .i64) 3 _ w.heap.size _ _ (rd_L1 F B) from Kd.V_mk G I);clear hva_ hvn_ hvc_ I G;clear T a1;have c0:=mk0 O;have c2:=mk0 M;clear O M;replace Q:=eq_true Q;replace R:=eq_true R;go_wp2;go_ret;exact ⟨by first|rfl|(simp [errW_none,errW_some] <;> rfl)|(simp [*,errW_none,errW_some] <;> rfl),by exact J.1⟩);· rw [if_neg c8] at H;exact absurd H (by simp));· rw [if_neg c7] at H;have c7b0:decide (B < (F.length:Int))=false:=decide_eq_false c7;clear c7;have H':=mk0 H;clear H;obtain ⟨g1,g2,e7⟩:=Kd.N_slice L.1;subst e7;go_wp2;go_roundg k2;(case measure=>have:=b1.1;have:=b2.1;omega);case rel=>exact ⟨(wrap64 (D + 1)),(by first|rfl|(simp;done)|(simp [*];done)),H',⟨by have:=b1.1;have:=b2.1;omega⟩,⟨by exact J.1⟩⟩
    · rw [if_neg c4] at H;exact absurd H (by simp)
   · rw [if_neg c3] at H;have c3b0:decide (D < (Y.length:Int))=false:=decide_eq_false c3;clear c3;obtain rfl:=Option.some.inj H;go_wp2;go_ret;exact ⟨by first|rfl|(simp [errW_none,errW_some] <;> rfl)|(simp [*,errW_none,errW_some] <;> rfl),by exact J.1⟩
end Go.Proofs.Ytkonljiembcdlaa.PC
namespace Go.Proofs.Ytkonljiembcdlaa.PC
open Go.Proofs.MyWords Go.RowKit Go.Proofs.YtkonljiembcdlaaW.PrintWords Go.Proofs.YtkonljiembcdlaaW.PrintLast Go.Proofs.YtkonljiembcdlaaW.PrintMore
attribute [local go_sem] max2_int min2_int max_two min_two max_three min_three max_four min_four   -- for this text's walks alone
set_option linter.unusedVariables false
set_option linter.unusedSimpArgs false
attribute [local go_sem] eqGuard_slices eqlnil23 neqnil23 eqlnil58 neqnil58
mutual
def bellpullref05_Check.l0:Nat → Int → List (List (S60)) → Int → Option (Int)
  | 0,_,_,_=>none
  | k + 1,x0,x1,x5=>if x5 < (x1.length:Int) then (if 0 ≤ x5 then ((bellpullref05_Long.f k (rd_L4 x1 x5)).bind fun t400=>(if t400=true then (some 3) else (bellpullref05_Check.l0 k x0 x1 (wrap64 (x5 + 1))))) else (none)) else (bellpullref05_Check.l1 k x0 x1 0)
def bellpullref05_Check.l1:Nat → Int → List (List (S60)) → Int → Option (Int)
  | 0,_,_,_=>none
  | k + 1,x0,x1,x6=>if x6 < (x1.length:Int) then (if 0 ≤ x6 then ((bellpullref05_Wide.f k x0 (rd_L4 x1 x6)).bind fun t402=>(if t402=true then (some 1) else (bellpullref05_Check.l1 k x0 x1 (wrap64 (x6 + 1))))) else (none)) else ((bellpullref01_In.f x0 1 3).bind fun t403=>(if t403=true then (bellpullref05_Check.l2 k x0 x1 0) else (some 1)))
def bellpullref05_Check.l2:Nat → Int → List (List (S60)) → Int → Option (Int)
  | 0,_,_,_=>none
  | k + 1,x0,x1,x7=>if x7 < (x1.length:Int) then (if 0 ≤ x7 then ((bellpullref05_Odd.f k x0 (rd_L4 x1 x7)).bind fun t405=>(if t405=true then (some 2) else (bellpullref05_Check.l2 k x0 x1 (wrap64 (x7 + 1))))) else (none)) else (some 0)
end
def bellpullref05_Check.f (k:Nat) (a0:Int) (l1:List (List (S60))):Option (Int):=bellpullref05_Check.l0 k a0 l1 0
set_option maxHeartbeats 8000000 in
set_option maxRecDepth 100000 in
theorem bellpullref05_Check.calls (k:Nat) (N:Int) (A1:Option Addr) (c1:Nat) (G:List (List (S60))) (r:Int) (w:World) (d9:Kd.C (Kd.slice 60 k60) w A1 G.length G) (e0:G.length ≤ c1) (h:bellpullref05_Check.f k N G=some r) :
    Calls Try.prog 19 #[.int .i64 N,.slice A1 G.length c1] w fun e w'=>e=.returned (.int .i64 r)∧Below w.heap.size w w':=by
 have b6:=mk0 d9;have f6:=mk0 e0;clear d9 e0;have B:=mk0 (Below.refl w.heap.size w);have H:(bellpullref05_Check.l0 k N G 0)=some r:=h;clear h;have H':=mk0 H;clear H;go_enter Try.func19,Try.ntmps19;go_wp2;go_loopg [5] k (fun kq v5 w'=>∃ (D:Int),v5=.int .i64 D∧Aside0 (bellpullref05_Check.l0 kq N G D=some r)∧Aside0 (kq ≤ k)∧Aside0 (Below w.heap.size w w'));case atStart=>exact ⟨(0),(by first|rfl|(simp;done)|(simp [*];done)),H',⟨Nat.le_refl _⟩,⟨by exact B.1⟩⟩
 case round =>
  (clear H';try clear c1);try clear p2
  obtain ⟨D,rfl,HA,b7,B⟩:=hrel;cases gk with
  | zero=>exact absurd HA.1 (by simp [bellpullref05_Check.l0])
  | succ k1 =>
   have H:=HA.1;clear HA;simp only [bellpullref05_Check.l0] at H;by_cases c3:D < (G.length:Int);· rw [if_pos c3] at H;have c3b0:decide (D < (G.length:Int))=true:=decide_eq_true c3;clear c3;by_cases c4:0 ≤ D;(· rw [if_pos c4] at H;have c4b0:decide (0 ≤ D)=true:=decide_eq_true c4;clear c4;replace H:=Option.bind_eq_some_iff.mp H;obtain ⟨e6,e1,H⟩:=H;(try dsimp only at H);have A5:=mk0 e1;clear e1;by_cases c6:e6=true;(· (subst c6;have M:(some 3)=some r:=by rw [if_pos rfl] at H;exact H);clear H;have H:=M;clear M;obtain rfl:=Option.some.inj H;have X:0 ≤ (D:Int):=of_decide_eq_true (by first|(with_reducible assumption)|assumption);have Y:D < (G.length:Int):=of_decide_eq_true (by first|(with_reducible assumption)|assumption);obtain ⟨d6,b0,b1,c0,I,O,Q⟩:=at_L4 b6.1 D X Y;cases c0;replace I:=(B.1.cell (World.block_lt_of_cell? w _ I)).trans I;have a4:=mk0 Q;have a5:=mk0 O;clear Q O;replace X:=eq_true X;replace Y:=eq_true Y;go_wp2_with (first|((with_reducible refine gate_callee (f:=48) rfl ?_);refine goesL_ (some 18) rfl rfl Try.func48 (by kernel_rfl) rfl #[.slice b0 (rd_L4 G D).length b1] rfl (by (try simp only [m0_,m1_,m2_]);first|done|rfl|(simp only [l0_,l1_];rfl)) ?_;(with_reducible refine (bellpullref05_Long.calls k1 _ _ (rd_L4 G D) true _ ?side1 ?side2 A5.1).mono ?_);(case side1=>repeat (first|exact (Kd.C_below a4.1 B.1)|(with_reducible refine Kd.C_alloc ?_ _)|(with_reducible refine Kd.C_drewN ?_ _)|(with_reducible refine Kd.C_drew ?_)));(case side2=>exact a5.1);rintro e w' ⟨rfl,⟨nd,rfl⟩⟩;refine ⟨_,rfl,?_⟩));go_ret;exact ⟨by first|rfl|(simp [errW_none,errW_some] <;> rfl)|(simp [*,errW_none,errW_some] <;> rfl),by repeat (first|(with_reducible first|exact B.1|apply below_alloc|apply pw_below_drewN|apply below_drew1)|exact B.1)⟩);· (replace c6:=Bool.eq_false_iff.mpr c6;subst c6;have M:(bellpullref05_Check.l0 k1 N G (wrap64 (D + 1)))=some r:=by rw [if_neg (show ¬ (false=true) by decide)] at H;exact H);clear H;have H:=M;clear M;have H':=mk0 H;clear H;have X:0 ≤ (D:Int):=of_decide_eq_true (by assumption);have Y:D < (G.length:Int):=of_decide_eq_true (by assumption);obtain ⟨d6,b0,b1,c0,I,O,Q⟩:=at_L4 b6.1 D X Y;cases c0;replace I:=bd_ B I;have a4:=mk0 Q;have a5:=mk0 O;clear Q O;replace X:=eq_true X;replace Y:=eq_true Y;go_wp2_with (first|((with_reducible refine gate_callee (f:=48) rfl ?_);refine goesL_ (some 18) rfl rfl Try.func48 (by kernel_rfl) rfl #[.slice b0 (rd_L4 G D).length b1] rfl (by (try simp only [m0_,m1_,m2_]);first|done|rfl|(simp only [l0_,l1_];rfl)) ?_;(with_reducible refine (bellpullref05_Long.calls k1 _ _ (rd_L4 G D) false _ ?side1 ?side2 A5.1).mono ?_);(case side1=>repeat (first|exact (Kd.C_below a4.1 B.1)|(with_reducible refine Kd.C_alloc ?_ _)|(with_reducible refine Kd.C_drewN ?_ _)|(with_reducible refine Kd.C_drew ?_)));(case side2=>exact a5.1);rintro e w' ⟨rfl,⟨nd,rfl⟩⟩;refine ⟨_,rfl,?_⟩));go_roundg k1;(case measure=>have:=b7.1;omega);case rel=>exact ⟨(wrap64 (D + 1)),(by first|rfl|(simp;done)|(simp [*];done)),H',⟨by have:=b7.1;omega⟩,⟨by repeat (first|(with_reducible first|exact B.1|apply below_alloc|apply pw_below_drewN|apply below_drew1)|exact B.1)⟩⟩);· rw [if_neg c4] at H;exact absurd H (by simp)
   ·
    rw [if_neg c3] at H;have c3b0:decide (D < (G.length:Int))=false:=decide_eq_false c3;clear c3;have H':=mk0 H;clear H;go_wp2;go_loopg [6] k1 (fun kq v6 w'=>∃ (E:Int),v6=.int .i64 E∧Aside0 (bellpullref05_Check.l1 kq N G E=some r)∧Aside0 (kq ≤ k1)∧Aside0 (Below w.heap.size w w'));case atStart=>exact ⟨(0),(by first|rfl|(simp;done)|(simp [*];done)),H',⟨Nat.le_refl _⟩,⟨by exact B.1⟩⟩
    case round =>
     (clear H';try clear c1);(try clear p2);(try clear c3);(try clear c3b0);(try clear p3);(try clear q3);(try clear hx3);(try clear c4);(try clear c4b0);(try clear c6);(try clear p6);(try clear I);(try clear p2);(try clear X);try clear Y
     obtain ⟨E,rfl,HA,d0,B⟩:=hrel;cases gk with
     | zero=>exact absurd HA.1 (by simp [bellpullref05_Check.l1])
     | succ k2 =>
      have H:=HA.1;clear HA;simp only [bellpullref05_Check.l1] at H;by_cases c7:E < (G.length:Int);· rw [if_pos c7] at H;have c7b0:decide (E < (G.length:Int))=true:=decide_eq_true c7;clear c7;by_cases c8:0 ≤ E;(· rw [if_pos c8] at H;have c8b0:decide (0 ≤ E)=true:=decide_eq_true c8;clear c8;replace H:=Option.bind_eq_some_iff.mp H;obtain ⟨e7,e2,H⟩:=H;(try dsimp only at H);have A9:=mk0 e2;clear e2;by_cases b8:e7=true;(· (subst b8;have M:(some 1)=some r:=by rw [if_pos rfl] at H;exact H);clear H;have H:=M;clear M;obtain rfl:=Option.some.inj H;have Z:0 ≤ (E:Int):=of_decide_eq_true (by assumption);have a1:E < (G.length:Int):=of_decide_eq_true (by assumption);obtain ⟨d7,b2,b3,c5,J,R,T⟩:=at_L4 b6.1 E Z a1;cases c5;replace J:=bd_ B J;have a6:=mk0 T;have a7:=mk0 R;clear T R;replace Z:=eq_true Z;replace a1:=eq_true a1;go_wp2_with (first|((with_reducible refine gate_callee (f:=49) rfl ?_);refine goesL_ (some 30) rfl rfl Try.func49 (by kernel_rfl) rfl #[.int .i64 N,.slice b2 (rd_L4 G E).length b3] rfl (by (try simp only [m0_,m1_,m2_]);first|done|rfl|(simp only [l0_,l1_];rfl)) ?_;(with_reducible refine (bellpullref05_Wide.calls k2 N _ _ (rd_L4 G E) true _ ?side1 ?side2 A9.1).mono ?_);(case side1=>repeat (first|exact (Kd.C_below a6.1 B.1)|(with_reducible refine Kd.C_alloc ?_ _)|(with_reducible refine Kd.C_drewN ?_ _)|(with_reducible refine Kd.C_drew ?_)));(case side2=>exact a7.1);rintro e f7 ⟨rfl,hb⟩;refine ⟨_,rfl,?_⟩;replace B:=mk0 (below_step (by exact B.1) hb);(try clear hb)));go_ret;exact ⟨by first|rfl|(simp [errW_none,errW_some] <;> rfl)|(simp [*,errW_none,errW_some] <;> rfl),by exact B.1⟩);· (replace b8:=Bool.eq_false_iff.mpr b8;subst b8;have M:(bellpullref05_Check.l1 k2 N G (wrap64 (E + 1)))=some r:=by rw [if_neg (show ¬ (false=true) by decide)] at H;exact H);clear H;have H:=M;clear M;have H':=mk0 H;clear H;have Z:0 ≤ (E:Int):=of_decide_eq_true (by assumption);have a1:E < (G.length:Int):=of_decide_eq_true (by assumption);obtain ⟨d7,b2,b3,c5,J,R,T⟩:=at_L4 b6.1 E Z a1;cases c5;replace J:=bd_ B J;have a6:=mk0 T;have a7:=mk0 R;clear T R;replace Z:=eq_true Z;replace a1:=eq_true a1;go_wp2_with (first|((with_reducible refine gate_callee (f:=49) rfl ?_);refine goesL_ (some 30) rfl rfl Try.func49 (by kernel_rfl) rfl #[.int .i64 N,.slice b2 (rd_L4 G E).length b3] rfl (by (try simp only [m0_,m1_,m2_]);first|done|rfl|(simp only [l0_,l1_];rfl)) ?_;(with_reducible refine (bellpullref05_Wide.calls k2 N _ _ (rd_L4 G E) false _ ?side1 ?side2 A9.1).mono ?_);(case side1=>repeat (first|exact (Kd.C_below a6.1 B.1)|(with_reducible refine Kd.C_alloc ?_ _)|(with_reducible refine Kd.C_drewN ?_ _)|(with_reducible refine Kd.C_drew ?_)));(case side2=>exact a7.1);rintro e f8 ⟨rfl,hb⟩;refine ⟨_,rfl,?_⟩;replace B:=mk0 (below_step (by exact B.1) hb);(try clear hb)));go_roundg k2;(case measure=>have:=b7.1;have:=d0.1;omega);case rel=>exact ⟨(wrap64 (E + 1)),(by first|rfl|(simp;done)|(simp [*];done)),H',⟨by have:=b7.1;have:=d0.1;omega⟩,⟨by exact B.1⟩⟩);· rw [if_neg c8] at H;exact absurd H (by simp)
      ·
       rw [if_neg c7] at H;have c7b0:decide (E < (G.length:Int))=false:=decide_eq_false c7;clear c7;replace H:=Option.bind_eq_some_iff.mp H;obtain ⟨e8,d4,H⟩:=H;(try dsimp only at H);have e3:=mk0 d4;clear d4;by_cases b9:e8=true
       ·
        (subst b9;have M:(bellpullref05_Check.l2 k2 N G 0)=some r:=by rw [if_pos rfl] at H;exact H);clear H;have H:=M;clear M;have H':=mk0 H;clear H;go_wp2_with (first|((with_reducible refine gate_callee (f:=20) rfl ?_);refine goesL_ (some 32) rfl rfl Try.func20 (by kernel_rfl) rfl #[.int .i64 N,.int .i64 1,.int .i64 3] rfl (by (try simp only [m0_,m1_,m2_]);first|done|rfl|(simp only [l0_,l1_];rfl)) ?_;(with_reducible refine (bellpullref01_In.calls N 1 3 true _ e3.1).mono ?_);rintro e w' ⟨rfl,⟨nd,rfl⟩⟩;refine ⟨_,rfl,?_⟩));go_loopg [7] k2 (fun kq v7 w'=>∃ (F:Int),v7=.int .i64 F∧Aside0 (bellpullref05_Check.l2 kq N G F=some r)∧Aside0 (kq ≤ k2)∧Aside0 (Below w.heap.size w w'));case atStart=>exact ⟨(0),(by first|rfl|(simp;done)|(simp [*];done)),H',⟨Nat.le_refl _⟩,⟨by repeat (first|(with_reducible first|exact B.1|apply below_alloc|apply pw_below_drewN|apply below_drew1)|exact B.1)⟩⟩
        case round =>
         (clear H';try clear c1);(try clear c2);(try clear p2);(try clear c3);(try clear c3b0);(try clear p3);(try clear q3);(try clear hx3);(try clear c4);(try clear c4b0);(try clear p4);(try clear q4);(try clear hx4);(try clear c6);(try clear p6);(try clear c7);(try clear c7b0);(try clear c8);(try clear c8b0);(try clear b8);(try clear b9);(try clear I);(try clear J);(try clear p2);(try clear p3);(try clear X);(try clear Z);(try clear p6);(try clear q3);(try clear Y);try clear a1
         obtain ⟨F,rfl,HA,e4,B⟩:=hrel;cases gk with
         | zero=>exact absurd HA.1 (by simp [bellpullref05_Check.l2])
         | succ k3 =>have H:=HA.1;clear HA;simp only [bellpullref05_Check.l2] at H;by_cases c15:F < (G.length:Int);(· rw [if_pos c15] at H;have c15b0:decide (F < (G.length:Int))=true:=decide_eq_true c15;clear c15;by_cases c16:0 ≤ F;(· rw [if_pos c16] at H;have c16b0:decide (0 ≤ F)=true:=decide_eq_true c16;clear c16;replace H:=Option.bind_eq_some_iff.mp H;obtain ⟨e9,d5,H⟩:=H;(try dsimp only at H);have e5:=mk0 d5;clear d5;by_cases d1:e9=true;(· (subst d1;have M:(some 2)=some r:=by rw [if_pos rfl] at H;exact H);clear H;have H:=M;clear M;obtain rfl:=Option.some.inj H;have a2:0 ≤ (F:Int):=of_decide_eq_true (by assumption);have a3:F < (G.length:Int):=of_decide_eq_true (by assumption);obtain ⟨d8,b4,b5,c9,L,U,V⟩:=at_L4 b6.1 F a2 a3;cases c9;replace L:=bd_ B L;have a8:=mk0 V;have a9:=mk0 U;clear V U;replace a2:=eq_true a2;replace a3:=eq_true a3;go_wp2_with (first|((with_reducible refine gate_callee (f:=50) rfl ?_);refine goesL_ (some 45) rfl rfl Try.func50 (by kernel_rfl) rfl #[.int .i64 N,.slice b4 (rd_L4 G F).length b5] rfl (by (try simp only [m0_,m1_,m2_]);first|done|rfl|(simp only [l0_,l1_];rfl)) ?_;(with_reducible refine (bellpullref05_Odd.calls k3 N _ _ (rd_L4 G F) true _ ?side1 ?side2 e5.1).mono ?_);(case side1=>repeat (first|exact (Kd.C_below a8.1 B.1)|(with_reducible refine Kd.C_alloc ?_ _)|(with_reducible refine Kd.C_drewN ?_ _)|(with_reducible refine Kd.C_drew ?_)));(case side2=>exact a9.1);rintro e f9 ⟨rfl,hb⟩;refine ⟨_,rfl,?_⟩;replace B:=mk0 (below_step (by exact B.1) hb);(try clear hb)));go_ret;exact ⟨by first|rfl|(simp [errW_none,errW_some] <;> rfl)|(simp [*,errW_none,errW_some] <;> rfl),by exact B.1⟩);· (replace d1:=Bool.eq_false_iff.mpr d1;subst d1;have M:(bellpullref05_Check.l2 k3 N G (wrap64 (F + 1)))=some r:=by rw [if_neg (show ¬ (false=true) by decide)] at H;exact H);clear H;have H:=M;clear M;have H':=mk0 H;clear H;have a2:0 ≤ (F:Int):=of_decide_eq_true (by assumption);have a3:F < (G.length:Int):=of_decide_eq_true (by assumption);obtain ⟨d8,b4,b5,c9,L,U,V⟩:=at_L4 b6.1 F a2 a3;cases c9;replace L:=bd_ B L;have a8:=mk0 V;have a9:=mk0 U;clear V U;replace a2:=eq_true a2;replace a3:=eq_true a3;go_wp2_with (first|((with_reducible refine gate_callee (f:=50) rfl ?_);refine goesL_ (some 45) rfl rfl Try.func50 (by kernel_rfl) rfl #[.int .i64 N,.slice b4 (rd_L4 G F).length b5] rfl (by (try simp only [m0_,m1_,m2_]);first|done|rfl|(simp only [l0_,l1_];rfl)) ?_;(with_reducible refine (bellpullref05_Odd.calls k3 N _ _ (rd_L4 G F) false _ ?side1 ?side2 e5.1).mono ?_);(case side1=>repeat (first|exact (Kd.C_below a8.1 B.1)|(with_reducible refine Kd.C_alloc ?_ _)|(with_reducible refine Kd.C_drewN ?_ _)|(with_reducible refine Kd.C_drew ?_)));(case side2=>exact a9.1);rintro e g0 ⟨rfl,hb⟩;refine ⟨_,rfl,?_⟩;replace B:=mk0 (below_step (by exact B.1) hb);(try clear hb)));go_roundg k3;(case measure=>have:=b7.1;have:=d0.1;have:=e4.1;omega);case rel=>exact ⟨(wrap64 (F + 1)),(by first|rfl|(simp;done)|(simp [*];done)),H',⟨by have:=b7.1;have:=d0.1;have:=e4.1;omega⟩,⟨by exact B.1⟩⟩);· rw [if_neg c16] at H;exact absurd H (by simp));· rw [if_neg c15] at H;have c15b0:decide (F < (G.length:Int))=false:=decide_eq_false c15;clear c15;obtain rfl:=Option.some.inj H;go_wp2;go_ret;exact ⟨by first|rfl|(simp [errW_none,errW_some] <;> rfl)|(simp [*,errW_none,errW_some] <;> rfl),by exact B.1⟩
       · (replace b9:=Bool.eq_false_iff.mpr b9;subst b9;have M:(some 1)=some r:=by rw [if_neg (show ¬ (false=true) by decide)] at H;exact H);clear H;have H:=M;clear M;obtain rfl:=Option.some.inj H;go_wp2_with (first|((with_reducible refine gate_callee (f:=20) rfl ?_);refine goesL_ (some 32) rfl rfl Try.func20 (by kernel_rfl) rfl #[.int .i64 N,.int .i64 1,.int .i64 3] rfl (by (try simp only [m0_,m1_,m2_]);first|done|rfl|(simp only [l0_,l1_];rfl)) ?_;(with_reducible refine (bellpullref01_In.calls N 1 3 false _ e3.1).mono ?_);rintro e w' ⟨rfl,⟨nd,rfl⟩⟩;refine ⟨_,rfl,?_⟩));go_ret;exact ⟨by first|rfl|(simp [errW_none,errW_some] <;> rfl)|(simp [*,errW_none,errW_some] <;> rfl),by repeat (first|(with_reducible first|exact B.1|apply below_alloc|apply pw_below_drewN|apply below_drew1)|exact B.1)⟩
end Go.Proofs.Ytkonljiembcdlaa.PC
namespace Go.Proofs.Ytkonljiembcdlaa.PC
open Go.Proofs.MyWords Go.RowKit Go.Proofs.YtkonljiembcdlaaW.PrintWords Go.Proofs.YtkonljiembcdlaaW.PrintLast Go.Proofs.YtkonljiembcdlaaW.PrintMore
attribute [local go_sem] max2_int min2_int max_two min_two max_three min_three max_four min_four   -- for this text's walks alone
set_option linter.unusedVariables false
set_option linter.unusedSimpArgs false
attribute [local go_sem] eqGuard_slices eqlnil23 neqnil23 eqlnil58 neqnil58
end Go.Proofs.Ytkonljiembcdlaa.PC
namespace Go.Proofs.Ytkonljiembcdlaa.PC
open Go.Proofs.MyWords Go.RowKit Go.Proofs.YtkonljiembcdlaaW.PrintWords Go.Proofs.YtkonljiembcdlaaW.PrintLast Go.Proofs.YtkonljiembcdlaaW.PrintMore
attribute [local go_sem] max2_int min2_int max_two min_two max_three min_three max_four min_four   -- for this text's walks alone
set_option linter.unusedVariables false
set_option linter.unusedSimpArgs false
attribute [local go_sem] eqGuard_slices eqlnil23 neqnil23 eqlnil58 neqnil58
def bellpullref05_letter.f (a0:Int):Option (List Int):=if 3 ≤ 35184372088832 then ((some (List.replicate 3 0:List Int)).bind fun y549=>(if a0=101 then (some y549) else (if 0 ≤ ((a0 - 97) % 256) then (if ((a0 - 97) % 256) < (y549.length:Int) then (some (y549.set (((a0 - 97) % 256):Int).toNat 1)) else (none)) else (none)))) else (none)
set_option maxHeartbeats 8000000 in
set_option maxRecDepth 100000 in
theorem bellpullref05_letter.calls (E:Int) (r:List Int) (w:World) (h:bellpullref05_letter.f E=some r) :
    Calls Try.prog 73 #[.int .u8 E] w fun e w'=>∃ a1:Value,e=.returned (a1)∧Kd.R (Kd.int .i64) 3 w' w.heap.size (fun _=>True) a1 r∧Below w.heap.size w w':=by
 have I:=mk0 (Below.refl w.heap.size w);have H:(if 3 ≤ 35184372088832 then ((some (List.replicate 3 0:List Int)).bind fun B=>(if E=101 then (some B) else (if 0 ≤ ((E - 97) % 256) then (if ((E - 97) % 256) < (B.length:Int) then (some (B.set (((E - 97) % 256):Int).toNat 1)) else (none)) else (none)))) else (none))=some r:=h;clear h
 by_cases c2:3 ≤ 35184372088832
 ·
  rw [if_pos c2] at H;have c2b0:=eq_true c2;have c2b1:decide (3 ≤ 35184372088832)=true:=decide_eq_true c2;clear c2;obtain ⟨B,F⟩:∃ y_:List Int,y_=(List.replicate 3 0):=⟨_,rfl⟩
  replace H:(if E=101 then (some B) else (if 0 ≤ ((E - 97) % 256) then (if ((E - 97) % 256) < (B.length:Int) then (some (B.set (((E - 97) % 256):Int).toNat 1)) else (none)) else (none)))=some r:=by first|(rw [F];with_reducible exact H)|(have L:=(Option.bind_some _ _).symm.trans H;rw [F];with_reducible exact L)|(have L:=(Option.bind_some _ _).symm.trans H;with_reducible exact L)|with_reducible exact H|(rw [F];exact H)|exact H
  have J:=mk0 F;clear F
  by_cases c3:E=101
  ·
   rw [if_pos c3] at H;have c3b0:(E == 101)=true:=beq_iff_eq.mpr c3;have c3b1:(E != 101)=false:=bne_eq_false_iff_eq.mpr c3;clear c3;obtain rfl:=Option.some.inj H;go_enter Try.func73,Try.ntmps73;go_wp2_with (first|((with_reducible refine gate_dst (N:=4) rfl ?_);refine Kd.R_make (Kd.int .i64) _ 3 rfl (N:=4) rfl 23 _ _ rfl 3 rfl rfl Try.underlying23 (.int .i64 0) 8 info3 rfl (by decide) (by omega) 0 (ok:=fun _=>True) (okp:=fun _=>True) rfl (fun _ hk=>hk) trivial (by omega) (by omega) (Below.refl _ _) (Nat.le_refl _) ?_;intro a6 w4 Q hb hg_ O;clear hg_ O;(first|rw [← J.1] at Q|(simp only [Int.reduceToNat] at Q;rw [← J.1] at Q));have C:=mk0 (Kd.R_lower Q (below_size I.1));replace I:=bst I hb;clear hb Q));go_ret;exact ⟨_,by first|rfl|(simp [errW_none,errW_some] <;> rfl)|(simp [*,errW_none,errW_some] <;> rfl),by (with_reducible repeat (first|apply Kd.R_alloc|apply Kd.R_drewN|apply Kd.R_drew));exact C.1,by repeat (first|(with_reducible first|exact I.1|apply below_alloc|apply pw_below_drewN|apply below_drew1)|exact I.1)⟩
  ·
   rw [if_neg c3] at H;have c3b0:(E == 101)=false:=beq_eq_false_iff_ne.mpr c3;have c3b1:(E != 101)=true:=bne_iff_ne.mpr c3;obtain ⟨D,T⟩:∃ j_:Int,((E - 97) % 256)=j_:=⟨_,rfl⟩
   replace H:(if 0 ≤ (D) then (if (D) < (B.length:Int) then (some (B.set ((D):Int).toNat 1)) else (none)) else (none))=some r:=by first|(rw [T] at H;exact H)|(simp only [T] at H ⊢;exact H)
   by_cases c7:0 ≤ (D)
   ·
    rw [if_pos c7] at H;have c7b0:decide (0 ≤ (D))=true:=decide_eq_true c7;clear c7
    by_cases c8:(D) < (B.length:Int)
    ·
     rw [if_pos c8] at H;have c8b0:decide ((D) < (B.length:Int))=true:=decide_eq_true c8;clear c8;obtain ⟨V,G⟩:∃ y_:List Int,y_=(B.set ((D):Int).toNat 1):=⟨_,rfl⟩
     replace H:(some V)=some r:=by first|(rw [G];with_reducible exact H)|(have L:=(Option.bind_some _ _).symm.trans H;rw [G];with_reducible exact L)|(have L:=(Option.bind_some _ _).symm.trans H;with_reducible exact L)|with_reducible exact H|(rw [G];exact H)|exact H
     have Z:=mk0 G;clear G;obtain rfl:=Option.some.inj H;go_enter Try.func73,Try.ntmps73;go_wp2_with (first|((with_reducible refine gate_dst (N:=4) rfl ?_);refine Kd.R_make (Kd.int .i64) _ 3 rfl (N:=4) rfl 23 _ _ rfl 3 rfl rfl Try.underlying23 (.int .i64 0) 8 info3 rfl (by decide) (by omega) 0 (ok:=fun _=>True) (okp:=fun _=>True) rfl (fun _ hk=>hk) trivial (by omega) (by omega) (Below.refl _ _) (Nat.le_refl _) ?_;intro a6 a2 M hb hg_ O;clear hg_ O;(first|rw [← J.1] at M|(simp only [Int.reduceToNat] at M;rw [← J.1] at M));have C:=mk0 (Kd.R_lower M (below_size I.1));replace I:=bst I hb;clear hb M;have p9:0 ≤ ((D):Int):=of_decide_eq_true (by first|(with_reducible assumption)|assumption);have q9:((D):Int) < ((B.length:Int):Int):=of_decide_eq_true (by first|(with_reducible assumption)|assumption);obtain ⟨X,a9,a3,a4,b0,b6,a5⟩:=Kd.R_form C.1 (by omega);(first|cases a3|(injection a3 with ea_ en_ ec_;(first|subst ea_|(injection ea_ with ea_;subst ea_));subst ec_;clear en_));have b1:=mk0 a4;have b7:=mk0 a5;clear a4 b0 a5;obtain ⟨b2,b3⟩:=Kd.R_celln 0 C.1 ((D):Int) p9 q9;replace p9:=eq_true p9;replace q9:=eq_true q9;obtain ⟨b4,b5⟩:=Kd.R_celln 0 C.1 ((D):Int) (of_decide_eq_true (by first|(with_reducible assumption)|assumption)) (of_decide_eq_true (by first|(with_reducible assumption)|assumption));have U:=Kd.R_putg C.1 ((D):Int) 1)|((with_reducible refine gate_store (t:=3) (p:=10) rfl ?_);refine store_event (t:=3) (p:=10) (v:=?vo_w13) (w1:=(a2.setCell ⟨X,((D):Int).toNat,none⟩ (.int .i64 1))) ?hg ?ho ?hn ?hr ?_;(case ho=>rfl);(case hg=>rfl);(case hn=>rfl);(case hr=>first|(go_simp;done)|(go_simp;rfl));intro Y hw;have hg:a2.grownBy Y (some X):=(by rw [hw];exact U.2);have hp_:Kd.R (Kd.int .i64) 3 Y w.heap.size (fun _=>True) (.slice (some ⟨X,0,none⟩) B.length a9) V:=(by rw [hw,Z.1];exact U.1);clear U;replace C:=mk0 (hp_);replace I:=mk0 ((by rw [hw];exact below_set (I.1) b1.1:Below w.heap.size w Y));clear hg hw hp_));go_ret;exact ⟨_,by first|rfl|(simp [errW_none,errW_some] <;> rfl)|(simp only [← T];first|rfl|(simp [errW_none,errW_some] <;> rfl))|(simp [*,errW_none,errW_some] <;> rfl),by (with_reducible repeat (first|apply Kd.R_alloc|apply Kd.R_drewN|apply Kd.R_drew));exact C.1,by repeat (first|(with_reducible first|exact I.1|apply below_alloc|apply pw_below_drewN|apply below_drew1)|exact I.1)⟩
    ·
     rw [if_neg c8] at H;exact absurd H (by simp)
   ·
    rw [if_neg c7] at H;exact absurd H (by simp)
 ·
  rw [if_neg c2] at H;exact absurd H (by simp)
end Go.Proofs.Ytkonljiembcdlaa.PC
namespace Go.Proofs.Ytkonljiembcdlaa.PC
open Go.Proofs.MyWords Go.RowKit Go.Proofs.YtkonljiembcdlaaW.PrintWords Go.Proofs.YtkonljiembcdlaaW.PrintLast Go.Proofs.YtkonljiembcdlaaW.PrintMore
set_option linter.unusedVariables false
set_option linter.unusedSimpArgs false
def refImage.kids (g:Int → Option (List S60 × Bool)):List Int → Option (Option (List (List S60)))
  | []=>some (some [])
  | o :: t=>(g o).bind fun p=>if p.2=true then (refImage.kids g t).bind fun r=>some (r.map fun l=>p.1 :: l) else some none
def refImage.out (k:Nat) (c:Int) (of:List (List S60)):Option (List S60) :=
  if c=43 then (if 2 ≤ of.length∧(rd_L4 of 0).length ≤ 1000000∧(rd_L4 of 1).length ≤ 1000000 then some (rd_L4 of 0 ++ rd_L4 of 1) else none)
  else if c=46 then (if 2 ≤ of.length then bellpullref05_Sum.f k (rd_L4 of 0) (rd_L4 of 1) else none)
  else if c=42 then (if 1 ≤ of.length then bellpullref05_Star.f k 3 (rd_L4 of 0) else none)
  else (bellpullref05_letter.f c).bind fun v=>some [⟨v,[]⟩]
def bellpullref05_Image.f:Nat → List S98 → Int → Option (List S60 × Bool)
  | 0,_,_=>none
  | k + 1,nodes,at'=>if 0 ≤ at'∧at' < (nodes.length:Int)∧(rd_T98 nodes at').f1.length ≤ 1000 then (refImage.kids (fun o=>bellpullref05_Image.f k nodes o) (rd_T98 nodes at').f1).bind fun r=>match r with
    | none=>some ([],false)
    | some of=>(refImage.out k (rd_T98 nodes at').f0 of).bind fun s=>(bellpullref05_Check.f k 3 [s]).bind fun e=>some (s,decide (e=0)) else none
theorem at_F4 {w:World} {ok:Nat → Prop} {A:Option Addr} {n:Nat} {xs:List (List S60)} (h:Kd.F (Kd.slice 60 k60) w ok A n xs) (i:Int) (h0:0 ≤ i) (h1:i < n):∃ ad A0 c0,A=some ad∧w.cell? (ad.add i.toNat)=some (.slice A0 (rd_L4 xs i).length c0)∧(rd_L4 xs i).length ≤ c0∧Kd.F k60 w ok A0 (rd_L4 xs i).length (rd_L4 xs i):=by
  obtain ⟨ad,c,e,_,hK,hc0,_⟩:=Kd.F_get h ([]:List S60) i h0 h1
  have hc:∀ j u,c[j]?=some u → w.cell? (ad.add (i.toNat * 1 + j))=some u:=hc0
  obtain ⟨A0,c0,rfl,l0,g0⟩:=Kd.FK_slice_open hK
  have h2:=hc 0 _ rfl
  rw [Nat.mul_one,Nat.add_zero] at h2
  exact ⟨ad,A0,c0,e,h2,l0,g0⟩
section
variable {ops:Array Oper} {o:Oper} {a:Act} {W0 W:World} {Q:Exit → Act → World → Prop} {Kc:Act → World → Prop} {ok okp:Nat → Prop} {s z:Operand}
theorem rows60_stepG {v:Value} {l m L:List S60} {Ab:Option Addr} {cb:Nat}
    (ho:o.op=.call { callee:=.builtin .append,args:=#[s,z],argTypes:=#[22,22] }) (hw:Region.wanted o (yielded ops a.tmps)=true) (hs:a.eval s=v) (hx:a.eval z=.slice Ab m.length cb)
    (HO:Kd.N k60 60 W W0.heap.size ok v l) (hF:Kd.F k60 W okp Ab m.length m) (hok:∀ k_,okp k_ → ok k_∧some k_ ≠ v.ownBlock) (hfr:∀ k_,W0.heap.size ≤ k_ → ok k_)
    (hbw:Below W0.heap.size W0 W) (hl:l.length ≤ 1000000) (hm:m.length ≤ 1000000) (hL:L=l ++ m)
    (h:∀ A1 c1 w1,Kd.N k60 60 w1 W0.heap.size ok (.slice A1 L.length c1) L → Below W0.heap.size W0 w1 → Kc (a.put o.dst (.slice A1 L.length c1)) w1) :
    if Region.wanted o (yielded ops a.tmps)=true then Oper.wp Try.prog o a W Kc Q else Kc (a.put o.dst undef) W:=by
  have h2:=hbw.size
  refine Kd.N_append_rows_step k60 (w0:=W0) W0.heap.size hw s z 22 60 (.agg #[.slice none 0 0,.slice none 0 0]) 48 ho Try.underlying22 info60 rfl (by decide) (by omega) v l m Ab m.length cb ok okp hs hx HO hF hok (fun k_ hk=>hfr k_ (by omega)) hbw h2 (by omega) ?_
  intro v1 w1 hN1 hb1 _ _
  rw [← hL] at hN1
  obtain ⟨A1,c1,rfl⟩:=Kd.N_slice hN1
  exact h A1 c1 w1 hN1 hb1
end
theorem add_z (a:Addr):a.add 0=a:=by simp [Addr.add]
theorem add_o (a:Addr):a.add 1=⟨a.block,a.off + 1,none⟩:=by
  have:=add_field a 0 1 (by omega)
  rw [add_z] at this
  exact this
theorem FK_row {w:World} {ok:Nat → Prop} {A:Option Addr} {c:Nat} {xs:List S60} (hF:Kd.F k60 w ok A xs.length xs) (hc:xs.length ≤ c):Kd.FK (Kd.slice 60 k60) w ok xs [.slice A xs.length c]:=fun W hW=>⟨A,c,rfl,hc,hF W hW⟩
set_option maxHeartbeats 4000000 in
set_option maxRecDepth 100000 in
theorem bellpullref05_Image.calls:∀ (k:Nat) (A0:Option Addr) (c0:Nat) (nodes:List S98) (at':Int) (r:List S60) (ok:Bool) (w:World) (hn:Kd.C k98 w A0 nodes.length nodes) (hcn:nodes.length ≤ c0) (h:bellpullref05_Image.f k nodes at'=some (r,ok)),
    Calls Try.prog 30 #[.slice A0 nodes.length c0,.int .i64 at'] w fun e w'=>∃ (A:Option Addr) (c:Nat),e=.returned (.tuple #[.slice A r.length c,.bool ok])∧r.length ≤ c∧Kd.F k60 w' (fun k_=>w.heap.size ≤ k_) A r.length r∧Below w.heap.size w w':=by
  intro k
  induction k with
  | zero=>intro A0 c0 nodes at' r ok w hn hcn h;cases h
  | succ k ih =>
  intro A0 c0 nodes at' r ok w hn hcn h
  have HIH:=mk0 ih
  clear ih
  unfold bellpullref05_Image.f at h
  by_cases hat:0 ≤ at'∧at' < (nodes.length:Int)∧(rd_T98 nodes at').f1.length ≤ 1000
  case neg=>rw [if_neg hat] at h;cases h
  rw [if_pos hat] at h
  obtain ⟨R,hR,h⟩:=Option.bind_eq_some_iff.mp h
  obtain ⟨ad,A1,c1,e,hx0,hx1,hlc,hC⟩:=at_T98 hn at' hat.1 hat.2.1
  cases e
  obtain ⟨n,hnn⟩:∃ n,n=rd_T98 nodes at':=⟨_,rfl⟩
  rw [← hnn] at h hR hx0 hx1 hlc hC
  have HN:=mk0 hn
  have HNC:=mk0 hcn
  have HLE:Aside0 (n.f1.length ≤ 1000):=⟨by rw [hnn];exact hat.2.2⟩
  have HR:=mk0 hR
  have HH:=mk0 h
  have HC1:=mk0 hC
  have HL1:=mk0 hlc
  have p0:=eq_true hat.1
  have p1:=eq_true hat.2.1
  clear h hR hn hcn hat hnn hC hlc
  have HX:=mk0 (below_alloc (Below.refl w.heap.size w) (.cells #[] 22))
  go_enter Try.func30,Try.ntmps30
  go_upto_region 2 with (first
    | ((with_reducible refine gate_dst (N:=6) rfl ?_);refine box_event ?hg (N:=6) ?hd (cs:=#[.int .u8 0,.slice none 0 0]) (t:=98) ?hr ?_;(case hd=>rfl);(case hg=>rfl);(case hr=>first|(go_simp;done)|(go_simp;rfl));intro g hg w6 hbox hb;have HBK:=mk0 hbox;have HG:=mk0 (show w.heap.size + 1 ≤ g from by rw [hg];simp);have HO:=mk0 (N_empty (Kd.slice 60 k60) (base:=w.heap.size) (ok:=fun k_=>w.heap.size ≤ k_∧k_ ≠ g) (blk_below (blk_new w (.cells #[] 22)) hb) (Nat.le_refl _) ⟨Nat.le_refl _,by have:=HG.1;omega⟩);replace HX:=mk0 (below_step HX.1 hb);clear hb hbox hg;have hcl0:w6.cell? ⟨g,0,none⟩=some (.int .u8 0):=(blk_cell HBK.1 0).trans rfl;have hcl1:w6.cell? ⟨g,1,none⟩=some (.slice none 0 0):=(blk_cell HBK.1 1).trans rfl;have hfl0:=blk_frozen HBK.1 0;have hfl1:=blk_frozen HBK.1 1))
  clear hcl0 hcl1 hfl0 hfl1
  have HGW:=mk0 (show w.heap.size ≤ g by have:=HG.1;omega)
  replace HX:Aside0 (Below w.heap.size w ((w6.setCell ⟨g,0,none⟩ (.int .u8 n.f0)).setCell ⟨g,1,none⟩ (.slice A1 n.f1.length c1))):=⟨below_set (below_set HX.1 HGW.1) HGW.1⟩
  replace HBK:Aside0 (((w6.setCell ⟨g,0,none⟩ (.int .u8 n.f0)).setCell ⟨g,1,none⟩ (.slice A1 n.f1.length c1)).heap[g]?=some (.cells #[.int .u8 n.f0,.slice A1 n.f1.length c1] 98 (0,0))):=⟨by refine blk_put (cs:=#[.int .u8 n.f0,.slice none 0 0]) ?_ 1 _ rfl;exact blk_put HBK.1 0 _ rfl⟩
  replace HO:=mk0 (Kd.N_far (p:=⟨g,1,none⟩) (Kd.N_far (p:=⟨g,0,none⟩) HO.1 (fun k_ hk=>hk.2) (.int .u8 n.f0)) (fun k_ hk=>hk.2) (.slice A1 n.f1.length c1))
  generalize ((w6.setCell ⟨g,0,none⟩ (.int .u8 n.f0)).setCell ⟨g,1,none⟩ (.slice A1 n.f1.length c1))=w7 at HX HBK HO ⊢
  generalize (Value.slice (some ⟨w.heap.size,0,none⟩) 0 0)=v7 at HO ⊢
  clear hx0 hx1 p0 p1
  go_wp2
  go_loopw [7,8] (fun v7 v8 wz=>∃ (i:Nat) (L:List (List S60)) (R2:Option (List (List S60))),v8=.int .i64 (i:Int)∧Aside0 (i ≤ n.f1.length∧L.length=i)∧Aside0 (refImage.kids (fun o=>bellpullref05_Image.f k nodes o) (n.f1.drop i)=some R2∧R=R2.map (fun l=>L ++ l))∧Aside0 (Kd.N (Kd.slice 60 k60) 22 wz w.heap.size (fun k_=>w.heap.size ≤ k_∧k_ ≠ g) v7 L)∧Aside0 (wz.heap[g]?=some (.cells #[.int .u8 n.f0,.slice A1 n.f1.length c1] 98 (0,0)))∧Aside0 (Below w.heap.size w wz)) (fun _ v8 _=>n.f1.length - (intOf v8).toNat)
  case atStart=>exact ⟨0,[],R,rfl,⟨Nat.zero_le _,rfl⟩,⟨HR.1,by cases R <;> simp⟩,HO,HBK,HX⟩
  case round =>
    clear HX HBK HO HR
    rename World=>wz
    obtain ⟨i,L,R2,rfl,HI,HR,HO,HBK,HX⟩:=hrel
    have hcl0:wz.cell? ⟨g,0,none⟩=some (.int .u8 n.f0):=(blk_cell HBK.1 0).trans rfl
    have hcl1:wz.cell? ⟨g,1,none⟩=some (.slice A1 n.f1.length c1):=(blk_cell HBK.1 1).trans rfl
    by_cases hit:i < n.f1.length
    · have hd2:decide ((i:Int) < (n.f1.length:Int))=true:=decide_eq_true (by omega)
      have hd2n:decide (i < n.f1.length)=true:=decide_eq_true hit
      obtain ⟨q,hq⟩:∃ q,q=rd n.f1 (i:Int):=⟨_,rfl⟩
      have hdrop:n.f1.drop i=q :: n.f1.drop (i + 1):=by
        rw [List.drop_eq_getElem_cons hit,hq]
        congr 1
        simp [rd,List.getD_eq_getElem?_getD,List.getElem?_eq_getElem hit]
      obtain ⟨hr,hRR⟩:=HR.1
      rw [hdrop,refImage.kids] at hr
      obtain ⟨⟨x,okx⟩,hx,hr⟩:=Option.bind_eq_some_iff.mp hr
      obtain ⟨a1,e1,hxc⟩:=Kd.at_int HC1.1 (i:Int) (by omega) (by omega)
      cases e1
      rw [← hq] at hxc
      simp only [Int.toNat_natCast] at hxc
      replace hxc:=pw_cell_below HX.1 hxc
      have q0:((0:Int) ≤ (i:Int))=True:=eq_true (by omega)
      have q1:((i:Int) < (n.f1.length:Int))=True:=eq_true (by omega)
      have q2:(i < n.f1.length)=True:=eq_true hit
      have HCALL:=mk0 (HIH.1 (some ad) c0 nodes q x okx wz (Kd.C_below HN.1 HX.1) HNC.1 hx)
      have HWI:Aside0 (wrap64 ((i:Int) + 1)=((i + 1:Nat):Int)):=⟨by have:=HLE.1;unfold wrap64;omega⟩
      have HIT:=mk0 hit
      cases okx with
      | false =>
        rw [if_neg (show ¬ ((x,false):List S60 × Bool).2=true from Bool.false_ne_true)] at hr
        have h2:=Option.some.inj hr
        subst h2
        subst hRR
        have hh:=HH.1
        obtain ⟨g1,g2⟩:=Prod.mk.inj (Option.some.inj (show some (([]:List S60),false)=some (r,ok) from hh))
        subst g1
        subst g2
        clear hr hh hdrop hx hq hit HR HH HIH
        go_wp2_with (fail)
        (with_reducible refine HCALL.1.mono ?_)
        rintro e w8 ⟨Bx,cx,rfl,hl,hF,hb⟩
        have HX8:=mk0 (below_step HX.1 hb)
        clear hb hF hl
        go_wp2
        (try simp only [Exit.inBlock,Exit.then])
        refine bodyPost_ret (results_tmp2 rfl _ _ _) rfl ?_
        exact ⟨none,0,rfl,Nat.le_refl _,Kd.F_nil _ _ _,HX8.1⟩
      | true =>
        rw [if_pos (show ((x,true):List S60 × Bool).2=true from rfl)] at hr
        obtain ⟨R3,hR3,hr⟩:=Option.bind_eq_some_iff.mp hr
        have h2:=Option.some.inj hr
        subst h2
        have HR3:Aside0 (refImage.kids (fun o=>bellpullref05_Image.f k nodes o) (n.f1.drop (i + 1))=some R3∧R=R3.map (fun l=>(L ++ [x]) ++ l)):=⟨hR3,by rw [hRR];cases R3 <;> simp⟩
        clear hr hRR hR3 hdrop hx hq hit HR
        go_wp2_with (fail)
        (with_reducible refine HCALL.1.mono ?_)
        rintro e w8 ⟨Bx,cx,rfl,hl,hF,hb⟩
        have HX8:=mk0 (below_step HX.1 hb)
        have HK8:=mk0 (blk_below HBK.1 hb)
        have HO8:=mk0 (Kd.N_below HO.1 hb)
        have HF8:=mk0 hF
        have HL8:=mk0 hl
        have HB8:=mk0 hb
        have HGL:=mk0 (blk_lt HBK.1)
        clear hb hF hl hcl0 hcl1 hxc
        go_wp2_with (first
          | ((with_reducible refine gate_dst (N:=39) rfl ?_);refine stop_ ?_))
        delta Stop
        refine Kd.N_append (Kd.slice 60 k60) (w0:=w) w.heap.size rfl (.tmp 36) (.tmp 38) 81 22 (.slice none 0 0) 24 (by rfl) Try.underlying81 info22 rfl (by decide) (by omega) u7 L x [.slice Bx x.length cx] (fun k_=>w.heap.size ≤ k_∧k_ ≠ g) (fun k_=>wz.heap.size ≤ k_) (by rfl) (by rfl) (FK_row HF8.1 HL8.1) (fun k_ hk=>⟨⟨Nat.le_trans HX.1.size hk,by have:=HGL.1;omega⟩,fun he=>by have:=Kd.N_lt HO.1 k_ he.symm;omega⟩) (fun k_ hk=>⟨Nat.le_trans HX8.1.size hk,by have:=HGL.1;have:=HB8.1.size;omega⟩) HO8.1 HX8.1 HX8.1.size (by have:=HI.1.2;have:=HIT.1;have:=HLE.1;omega) ?_
        intro v9 w9 hN9 hb9 hg9 _
        have HN9:=mk0 hN9
        have HX9:=mk0 hb9
        have HK9:=mk0 (blk_grown HK8.1 hg9 (fun e=>(HO8.1.1 g e.symm).2 rfl))
        clear hN9 hb9 hg9
        go_wp2
        refine ⟨⟨i + 1,L ++ [x],R3,congrArg _ HWI.1,⟨HIT.1,by rw [List.length_append,HI.1.2];rfl⟩,HR3,HN9,HK9,HX9⟩,?_⟩
        rw [HWI.1];simp only [intOf];have:=HIT.1;omega
    have hd2:decide ((i:Int) < (n.f1.length:Int))=false:=decide_eq_false (by omega)
    have hd2n:decide (i < n.f1.length)=false:=decide_eq_false hit
    have hi:i=n.f1.length:=by have:=HI.1;omega
    obtain ⟨hr,hRR⟩:=HR.1
    rw [hi,List.drop_length,refImage.kids] at hr
    have h2:=Option.some.inj hr
    subst h2
    rw [Option.map_some,List.append_nil] at hRR
    subst hRR
    have hh:=HH.1
    obtain ⟨s,hs,hh⟩:=Option.bind_eq_some_iff.mp hh
    obtain ⟨ch,hch,hh⟩:=Option.bind_eq_some_iff.mp hh
    obtain ⟨g1,g2⟩:=Prod.mk.inj (Option.some.inj hh)
    subst g1
    have HS:=mk0 hs
    have HCH:=mk0 hch
    have HOK:=mk0 g2
    obtain ⟨AL,cL,hv7⟩:=Kd.N_slice HO.1
    subst hv7
    have HLF:=mk0 (Kd.N_F HO.1)
    clear hs hch hh hr g2 hit hi HR HH HIH HO
    have HX2:=mk0 (below_step HX.1 (below_alloc (Below.refl wz.heap.size wz) (.cells #[] 60)))
    have hcl2:(wz.alloc (.cells #[] 60)).cell? ⟨g,0,none⟩=some (.int .u8 n.f0):=pw_cell_below (below_alloc (Below.refl _ _) _) hcl0
    go_upto_region 10 with (fail)
    generalize hW2:wz.alloc (.cells #[] 60)=wa at *
    have HLA:Aside0 (Kd.F (Kd.slice 60 k60) wa (fun k_=>w.heap.size ≤ k_∧k_ ≠ g) AL L.length L):=⟨by rw [← hW2];exact Kd.F_below HLF.1 (below_alloc (Below.refl _ _) _)⟩
    have HLF:Aside0 (Kd.F (Kd.slice 60 k60) wa (fun k_=>(w.heap.size ≤ k_∧k_ ≠ g)∧k_ < wa.heap.size) AL L.length L):=⟨Kd.F_bound HLA.1⟩
    have HSZ:Aside0 (w.heap.size ≤ wa.heap.size):=⟨HX2.1.size⟩
    clear HLA hW2 hcl0 hcl1 HBK
    have hs:=HS.1
    unfold refImage.out at hs
    clear HS
    by_cases c43:n.f0=43
    · rw [if_pos c43] at hs
      have hc43:(n.f0 == 43)=true:=beq_iff_eq.mpr c43
      by_cases hsz:2 ≤ L.length∧(rd_L4 L 0).length ≤ 1000000∧(rd_L4 L 1).length ≤ 1000000
      case neg=>rw [if_neg hsz] at hs;cases hs
      rw [if_pos hsz] at hs
      have hs2:=Option.some.inj hs
      obtain ⟨aL,B0,b0,e0,hy0,hl0,hF0⟩:=at_F4 HLF.1 0 (by omega) (by omega)
      cases e0
      obtain ⟨aL2,B1,b1,e0,hy1,hl1,hF1⟩:=at_F4 HLF.1 1 (by omega) (by omega)
      cases e0
      rw [show (0:Int).toNat=0 from rfl,add_z] at hy0
      rw [show (1:Int).toNat=1 from rfl,add_o] at hy1
      have HY:Aside0 (∀ W,Below wa.heap.size wa W → W.cell? aL=some (.slice B0 (rd_L4 L 0).length b0)∧W.cell? ⟨aL.block,aL.off + 1,none⟩=some (.slice B1 (rd_L4 L 1).length b1)):=⟨fun W hW=>⟨pw_cell_below hW hy0,pw_cell_below hW hy1⟩⟩
      have HF0:=mk0 hF0
      have HF1:=mk0 hF1
      have HSE:=mk0 hs2.symm
      have HSZ2:=mk0 hsz
      have hq0:((0:Int) < (L.length:Int))=True:=eq_true (by omega)
      have hq1:((1:Int) < (L.length:Int))=True:=eq_true (by omega)
      have hq2:(0 < L.length)=True:=eq_true (by omega)
      have hq3:(1 < L.length)=True:=eq_true (by omega)
      have HX:=mk0 (Below.refl wa.heap.size wa)
      clear hs hs2 hsz hy0 hy1 hl0 hl1 hF0 hF1 c43
      go_upto_region 13 with (fail)
      go_region_held3 (fun w'=>w'.cell? aL=some (.slice B0 (rd_L4 L 0).length b0)∧w'.cell? ⟨aL.block,aL.off + 1,none⟩=some (.slice B1 (rd_L4 L 1).length b1)) (exact HY.1 _ (by with_reducible repeat (first|exact HX.1|apply below_alloc|apply Below.drew)))
        (first
          | (refine rows60_stepG (W0:=wa) (v:=.slice (some ⟨wa.heap.size,0,none⟩) 0 0) (ok:=fun k_=>w.heap.size ≤ k_) (l:=[]) (m:=rd_L4 L 0) (L:=rd_L4 L 0) (by rfl) (by rfl) (by rfl) (by rfl) (N_empty k60 ?eb (Nat.le_refl _) HSZ.1) (Kd.F_below HF0.1 ?b) (fun k_ hk=>⟨hk.1.1,fun he=>by have h:=Option.some.inj (show some k_=some wa.heap.size from he);have:=hk.2;omega⟩) (fun k_ hk=>Nat.le_trans HSZ.1 hk) ?b2 (Nat.zero_le _) HSZ2.1.2.1 rfl ?_;(case eb=>with_reducible repeat (first|exact blk_new _ _|refine blk_drew ?_|refine blk_al ?_ _));(case b=>with_reducible repeat (first|exact HX.1|apply below_alloc|apply Below.drew));(case b2=>with_reducible repeat (first|exact HX.1|apply below_alloc|apply Below.drew));intro A7 c7 w7 hN hb;have HN7:=mk0 hN;replace HX:=mk0 hb;clear hN hb)
          | (refine rows60_stepG (W0:=wa) (v:=.slice A7 (rd_L4 L 0).length c7) (ok:=fun k_=>w.heap.size ≤ k_) (l:=rd_L4 L 0) (m:=rd_L4 L 1) (L:=s) (by rfl) (by rfl) (by rfl) (by rfl) ?n (Kd.F_below HF1.1 ?b) (fun k_ hk=>⟨hk.1.1,fun he=>by have:=Kd.N_base HN7.1 _ he.symm;have:=hk.2;omega⟩) (fun k_ hk=>Nat.le_trans HSZ.1 hk) ?b2 HSZ2.1.2.1 HSZ2.1.2.2 HSE.1 ?_;(case n=>with_reducible repeat (first|exact HN7.1|refine N_al ?_ _|refine Kd.N_drew ?_));(case b=>with_reducible repeat (first|exact HX.1|apply below_alloc|apply Below.drew));(case b2=>with_reducible repeat (first|exact HX.1|apply below_alloc|apply Below.drew));intro As cs wb hN hb;have HNs:=mk0 hN;replace HX:=mk0 hb;clear hN hb)
          | fail)
      all_goals
        have HFs:Aside0 (Kd.F k60 wb (fun k_=>w.heap.size ≤ k_) As s.length s):=⟨Kd.N_F HNs.1⟩
        have HLs:=mk0 (Kd.N_reads' HNs.1).2.1
        have HXb:=mk0 (below_step HX2.1 HX.1)
        have hchb:(ch == 0)=ok:=by rw [← HOK.1];rfl
        have HCK:Aside0 (∀ (g:Nat) (W:World),Below wb.heap.size wb W → W.heap[g]?=some (.cells #[.slice As s.length cs] 22 (0,0)) → Calls Try.prog 19 #[.int .i64 3,.slice (some ⟨g,0,none⟩) 1 1] W fun e w'=>e=.returned (.int .i64 ch)∧Below W.heap.size W w'):=⟨fun g W hW hg=>bellpullref05_Check.calls k 3 (some ⟨g,0,none⟩) 1 [s] ch W (C_one_row hg (Kd.C_below (Kd.F_now HFs.1) hW) HLs.1) (Nat.le_refl _) HCH.1⟩
        go_wp2_with (fail)
        (with_reducible refine (HCK.1 _ _ (below_alloc (Below.refl _ _) _) (blk_new _ _)).mono ?_)
        rintro e w9 ⟨rfl,hb⟩
        have hb9:=below_step (below_alloc (Below.refl wb.heap.size wb) (.cells #[.slice As s.length cs] 22)) hb
        go_wp2
        (try simp only [Exit.inBlock,Exit.then])
        refine bodyPost_ret (results_tmp2 rfl _ _ _) rfl ?_
        exact ⟨As,cs,rfl,HLs.1,Kd.F_below HFs.1 hb9,below_step HXb.1 hb9⟩
    rw [if_neg c43] at hs
    have hc43:(n.f0 == 43)=false:=beq_eq_false_iff_ne.mpr c43
    clear c43
    by_cases c46:n.f0=46
    · rw [if_pos c46] at hs
      have hc46:(n.f0 == 46)=true:=beq_iff_eq.mpr c46
      by_cases hsz:2 ≤ L.length
      case neg=>rw [if_neg hsz] at hs;cases hs
      rw [if_pos hsz] at hs
      obtain ⟨aL,B0,b0,e0,hy0,hl0,hF0⟩:=at_F4 HLF.1 0 (by omega) (by omega)
      cases e0
      obtain ⟨aL2,B1,b1,e0,hy1,hl1,hF1⟩:=at_F4 HLF.1 1 (by omega) (by omega)
      cases e0
      rw [show (0:Int).toNat=0 from rfl,add_z] at hy0
      rw [show (1:Int).toNat=1 from rfl,add_o] at hy1
      have HY:Aside0 (∀ W,Below wa.heap.size wa W → W.cell? aL=some (.slice B0 (rd_L4 L 0).length b0)∧W.cell? ⟨aL.block,aL.off + 1,none⟩=some (.slice B1 (rd_L4 L 1).length b1)):=⟨fun W hW=>⟨pw_cell_below hW hy0,pw_cell_below hW hy1⟩⟩
      have HCALL:=mk0 (fun W (hW:Below wa.heap.size wa W)=>bellpullref05_Sum.calls k _ B0 b0 (rd_L4 L 0) B1 b1 (rd_L4 L 1) s W (Kd.F_below hF0 hW) hl0 (Kd.F_below hF1 hW) hl1 hs)
      have hq0:((0:Int) < (L.length:Int))=True:=eq_true (by omega)
      have hq1:((1:Int) < (L.length:Int))=True:=eq_true (by omega)
      have hq2:(0 < L.length)=True:=eq_true (by omega)
      have hq3:(1 < L.length)=True:=eq_true (by omega)
      have HX:=mk0 (Below.refl wa.heap.size wa)
      clear hs hsz hy0 hy1 hl0 hl1 hF0 hF1 c46
      go_upto_region 15 with (fail)
      go_region_held3 (fun w'=>w'.cell? aL=some (.slice B0 (rd_L4 L 0).length b0)∧w'.cell? ⟨aL.block,aL.off + 1,none⟩=some (.slice B1 (rd_L4 L 1).length b1)) (exact HY.1 _ (by with_reducible repeat (first|exact HX.1|apply below_alloc|apply Below.drew)))
        (first
          | (go_at_call 41;(with_reducible refine (HCALL.1 _ ?b).mono ?_);(case b=>with_reducible repeat (first|exact HX.1|apply below_alloc|apply Below.drew));rintro e wb ⟨As,cs,rfl,hl,hF,hb⟩;have HLs:=mk0 hl;have HFs0:=mk0 hF;replace HX:=mk0 (below_step (by with_reducible repeat (first|exact HX.1|apply below_alloc|apply Below.drew)) hb);have HWs:=mk0 hb.size;clear hl hF hb)
          | fail)
      all_goals
        have HFs:Aside0 (Kd.F k60 wb (fun k_=>w.heap.size ≤ k_) As s.length s):=⟨Kd.F_mono HFs0.1 (fun k_ hk=>hk.elim (fun h=>h.1.1) (fun h=>Nat.le_trans HSZ.1 h))⟩
        have HXb:=mk0 (below_step HX2.1 HX.1)
        have hchb:(ch == 0)=ok:=by rw [← HOK.1];rfl
        have HCK:Aside0 (∀ (g:Nat) (W:World),Below wb.heap.size wb W → W.heap[g]?=some (.cells #[.slice As s.length cs] 22 (0,0)) → Calls Try.prog 19 #[.int .i64 3,.slice (some ⟨g,0,none⟩) 1 1] W fun e w'=>e=.returned (.int .i64 ch)∧Below W.heap.size W w'):=⟨fun g W hW hg=>bellpullref05_Check.calls k 3 (some ⟨g,0,none⟩) 1 [s] ch W (C_one_row hg (Kd.C_below (Kd.F_now HFs.1) hW) HLs.1) (Nat.le_refl _) HCH.1⟩
        go_wp2_with (fail)
        (with_reducible refine (HCK.1 _ _ (below_alloc (Below.refl _ _) _) (blk_new _ _)).mono ?_)
        rintro e w9 ⟨rfl,hb⟩
        have hb9:=below_step (below_alloc (Below.refl wb.heap.size wb) (.cells #[.slice As s.length cs] 22)) hb
        go_wp2
        (try simp only [Exit.inBlock,Exit.then])
        refine bodyPost_ret (results_tmp2 rfl _ _ _) rfl ?_
        exact ⟨As,cs,rfl,HLs.1,Kd.F_below HFs.1 hb9,below_step HXb.1 hb9⟩
    rw [if_neg c46] at hs
    have hc46:(n.f0 == 46)=false:=beq_eq_false_iff_ne.mpr c46
    clear c46
    by_cases c42:n.f0=42
    · rw [if_pos c42] at hs
      have hc42:(n.f0 == 42)=true:=beq_iff_eq.mpr c42
      by_cases hsz:1 ≤ L.length
      case neg=>rw [if_neg hsz] at hs;cases hs
      rw [if_pos hsz] at hs
      obtain ⟨aL,B0,b0,e0,hy0,hl0,hF0⟩:=at_F4 HLF.1 0 (by omega) (by omega)
      cases e0
      rw [show (0:Int).toNat=0 from rfl,add_z] at hy0
      have hy:wa.cell? aL=some (.slice B0 (rd_L4 L 0).length b0):=hy0
      have HCALL:=mk0 (fun W (hW:Below wa.heap.size wa W)=>bellpullref05_Star.calls k _ 3 B0 b0 (rd_L4 L 0) s W (Kd.F_below hF0 hW) hl0 hs)
      have hq0:((0:Int) < (L.length:Int))=True:=eq_true (by omega)
      have hq2:(0 < L.length)=True:=eq_true (by omega)
      clear hs hsz hy0 hl0 hF0 c42
      go_wp2_with (fail)
      (with_reducible refine (HCALL.1 _ (Below.refl _ _)).mono ?_)
      rintro e wb ⟨As,cs,rfl,hl,hF,hb⟩
      have HLs:=mk0 hl
      have HFs:Aside0 (Kd.F k60 wb (fun k_=>w.heap.size ≤ k_) As s.length s):=⟨Kd.F_mono hF (fun k_ hk=>hk.elim (fun h=>h.1.1) (fun h=>Nat.le_trans HSZ.1 h))⟩
      have HXb:=mk0 (below_step HX2.1 hb)
      clear hl hF hb
      all_goals
        have hchb:(ch == 0)=ok:=by rw [← HOK.1];rfl
        have HCK:Aside0 (∀ (g:Nat) (W:World),Below wb.heap.size wb W → W.heap[g]?=some (.cells #[.slice As s.length cs] 22 (0,0)) → Calls Try.prog 19 #[.int .i64 3,.slice (some ⟨g,0,none⟩) 1 1] W fun e w'=>e=.returned (.int .i64 ch)∧Below W.heap.size W w'):=⟨fun g W hW hg=>bellpullref05_Check.calls k 3 (some ⟨g,0,none⟩) 1 [s] ch W (C_one_row hg (Kd.C_below (Kd.F_now HFs.1) hW) HLs.1) (Nat.le_refl _) HCH.1⟩
        go_wp2_with (fail)
        (with_reducible refine (HCK.1 _ _ (below_alloc (Below.refl _ _) _) (blk_new _ _)).mono ?_)
        rintro e w9 ⟨rfl,hb⟩
        have hb9:=below_step (below_alloc (Below.refl wb.heap.size wb) (.cells #[.slice As s.length cs] 22)) hb
        go_wp2
        (try simp only [Exit.inBlock,Exit.then])
        refine bodyPost_ret (results_tmp2 rfl _ _ _) rfl ?_
        exact ⟨As,cs,rfl,HLs.1,Kd.F_below HFs.1 hb9,below_step HXb.1 hb9⟩
    rw [if_neg c42] at hs
    have hc42:(n.f0 == 42)=false:=beq_eq_false_iff_ne.mpr c42
    clear c42
    obtain ⟨vv,hvv,hs⟩:=Option.bind_eq_some_iff.mp hs
    have hs2:=Option.some.inj hs
    have HCALL:=mk0 (bellpullref05_letter.calls n.f0 vv wa hvv)
    clear hs hvv
    go_wp2_with (fail)
    (with_reducible refine HCALL.1.mono ?_)
    rintro e w8 ⟨v,rfl,hR,hb⟩
    obtain ⟨Av,cv,rfl⟩:=Kd.R_slice hR
    have HR8:=mk0 hR
    have HXb:=mk0 (below_alloc (below_step HX2.1 hb) (.cells #[.slice Av vv.length cv,.slice none 0 0] 60))
    have HNs:=mk0 (N_one (W:=w8) (base:=w.heap.size) (ok:=fun k_=>w.heap.size ≤ k_) (okp:=fun k_=>wa.heap.size ≤ k_) (p:=vv) (q:=[]) (A:=Av) (B:=none) (c:=cv) (d:=0) (below_step HX2.1 hb).size (k60_mkF _ _ ⟨vv,[]⟩ (Kd.R_reads' hR).2.1 (Kd.F_mono (Kd.R_F (Kd.R_bound hR)) (fun k_ hk=>hk.2.1)) (Nat.le_refl _) (Kd.F_nil _ _ _)) (fun k_ hk=>Nat.le_trans HSZ.1 hk) (below_step HX2.1 hb).size)
    rw [hs2] at HNs
    clear hR hb
    go_upto_region 18 with (fail)
    generalize w8.alloc (.cells #[.slice Av vv.length cv,.slice none 0 0] 60)=wb at *
    obtain ⟨As,cs,hvs⟩:=Kd.N_slice HNs.1
    rw [hvs] at HNs ⊢
    have HFs:Aside0 (Kd.F k60 wb (fun k_=>w.heap.size ≤ k_) As s.length s):=⟨Kd.N_F HNs.1⟩
    have HLs:=mk0 (Kd.N_reads' HNs.1).2.1
    all_goals
        have hchb:(ch == 0)=ok:=by rw [← HOK.1];rfl
        have HCK:Aside0 (∀ (g:Nat) (W:World),Below wb.heap.size wb W → W.heap[g]?=some (.cells #[.slice As s.length cs] 22 (0,0)) → Calls Try.prog 19 #[.int .i64 3,.slice (some ⟨g,0,none⟩) 1 1] W fun e w'=>e=.returned (.int .i64 ch)∧Below W.heap.size W w'):=⟨fun g W hW hg=>bellpullref05_Check.calls k 3 (some ⟨g,0,none⟩) 1 [s] ch W (C_one_row hg (Kd.C_below (Kd.F_now HFs.1) hW) HLs.1) (Nat.le_refl _) HCH.1⟩
        go_wp2_with (fail)
        (with_reducible refine (HCK.1 _ _ (below_alloc (Below.refl _ _) _) (blk_new _ _)).mono ?_)
        rintro e w9 ⟨rfl,hb⟩
        have hb9:=below_step (below_alloc (Below.refl wb.heap.size wb) (.cells #[.slice As s.length cs] 22)) hb
        go_wp2
        (try simp only [Exit.inBlock,Exit.then])
        refine bodyPost_ret (results_tmp2 rfl _ _ _) rfl ?_
        exact ⟨As,cs,rfl,HLs.1,Kd.F_below HFs.1 hb9,below_step HXb.1 hb9⟩
end Go.Proofs.Ytkonljiembcdlaa.PC
namespace Go.Proofs.Ytkonljiembcdlaa.PC
open Go.Proofs.MyWords Go.RowKit Go.Proofs.YtkonljiembcdlaaW.PrintWords Go.Proofs.YtkonljiembcdlaaW.PrintLast Go.Proofs.YtkonljiembcdlaaW.PrintMore
attribute [local go_sem] max2_int min2_int max_two min_two max_three min_three max_four min_four   -- for this text's walks alone
set_option linter.unusedVariables false
set_option linter.unusedSimpArgs false
attribute [local go_sem] eqGuard_slices eqlnil23 neqnil23 eqlnil58 neqnil58
def bellpulllaw05_text.f (a0:ByteArray):Option (ByteArray):=if 0 ≤ (mn (a0.size:Int) 31) then (if (mn (a0.size:Int) 31) ≤ (a0.size:Int) then (some (a0.extract 0 ((mn (a0.size:Int) 31):Int).toNat)) else (none)) else (none)
set_option maxHeartbeats 8000000 in
set_option maxRecDepth 100000 in
theorem bellpulllaw05_text.calls (C:ByteArray) (r:ByteArray) (w:World) (h:bellpulllaw05_text.f C=some r) :
    Calls Try.prog 25 #[.string C] w fun e w'=>e=.returned (.string r)∧Below w.heap.size w w':=by
 have E:=mk0 (Below.refl w.heap.size w);have H:(if 0 ≤ (mn (C.size:Int) 31) then (if (mn (C.size:Int) 31) ≤ (C.size:Int) then (some (C.extract 0 ((mn (C.size:Int) 31):Int).toNat)) else (none)) else (none))=some r:=h;clear h;obtain ⟨B,D⟩:∃ j_:Int,(mn (C.size:Int) 31)=j_:=⟨_,rfl⟩
 replace H:(if 0 ≤ (B) then (if (B) ≤ (C.size:Int) then (some (C.extract 0 ((B):Int).toNat)) else (none)) else (none))=some r:=by first|(rw [D] at H;exact H)|(simp only [D] at H ⊢;exact H)
 (try (have hji2h:B ≤ 31:=by (rw [← D];unfold mn;(repeat' split) <;> omega)));(try (have hji2g:B ≤ 64:=by omega));(try (have hji2l:0 ≤ B:=by (rw [← D];unfold mn;(repeat' split) <;> omega)));(try (have hji2m:0 ≤ B:=by omega));have F:(if 31 < (C.size:Int) then 31 else (C.size:Int))=B:=D
 by_cases c3:0 ≤ (B)
 ·
  rw [if_pos c3] at H;have c3b0:=eq_true c3;have c3b1:decide (0 ≤ (B))=true:=decide_eq_true c3;clear c3
  by_cases c4:(B) ≤ (C.size:Int)
  ·
   rw [if_pos c4] at H;have c4b0:=eq_true c4;have c4b1:decide ((B) ≤ (C.size:Int))=true:=decide_eq_true c4;clear c4;obtain rfl:=Option.some.inj H;go_enter Try.func25,Try.ntmps25;go_wp2;go_ret;exact ⟨by first|rfl|(simp [errW_none,errW_some] <;> rfl)|(simp only [← D];first|rfl|(simp [errW_none,errW_some] <;> rfl))|(simp [*,errW_none,errW_some] <;> rfl),by repeat (first|(with_reducible first|exact E.1|apply below_alloc|apply pw_below_drewN|apply below_drew1)|exact E.1)⟩
  ·
   rw [if_neg c4] at H;exact absurd H (by simp)
 ·
  rw [if_neg c3] at H;exact absurd H (by simp)
end Go.Proofs.Ytkonljiembcdlaa.PC
namespace Go.Proofs.Ytkonljiembcdlaa.PC
open Go.Proofs.MyWords Go.RowKit Go.Proofs.YtkonljiembcdlaaW.PrintWords Go.Proofs.YtkonljiembcdlaaW.PrintLast Go.Proofs.YtkonljiembcdlaaW.PrintMore
attribute [local go_sem] max2_int min2_int max_two min_two max_three min_three max_four min_four   -- for this text's walks alone
set_option linter.unusedVariables false
set_option linter.unusedSimpArgs false
attribute [local go_sem] eqGuard_slices eqlnil23 neqnil23 eqlnil58 neqnil58
mutual
def bellpullref05_Parse.l0:Nat → ByteArray → List (S98) → List Int → Int → Option ((List (S98)) × Bool)
  | 0,_,_,_,_=>none
  | k + 1,x0,x4,x5,x6=>if x6 < (x0.size:Int) then (if 0 ≤ x6 then (if (bt x0 x6)=97 then (bellpullref05_Parse.j1 k x0 x4 x5 x6 0 (bt x0 x6) ((bt x0 x6) == 97)) else (if (bt x0 x6)=98 then (bellpullref05_Parse.j1 k x0 x4 x5 x6 0 (bt x0 x6) ((bt x0 x6) == 98)) else (if (bt x0 x6)=99 then (bellpullref05_Parse.j1 k x0 x4 x5 x6 0 (bt x0 x6) ((bt x0 x6) == 99)) else (bellpullref05_Parse.j1 k x0 x4 x5 x6 0 (bt x0 x6) ((bt x0 x6) == 101))))) else (none)) else (some (x4,((x5.length:Int) == 1)))
def bellpullref05_Parse.j1:Nat → ByteArray → List (S98) → List Int → Int → Int → Int → Bool → Option ((List (S98)) × Bool)
  | 0,_,_,_,_,_,_,_=>none
  | k + 1,x0,x4,x5,x6,x7,x19,x20=>if x20=true then (if (x5.length:Int) < x7 then (some (([]:List (S98)),false)) else (if 0 ≤ x6 then (if x6 < (x0.size:Int) then ((some (([]:List Int):List Int)).bind fun y468=>(if 0 ≤ (wrap64 ((x5.length:Int) - x7)) then (if (wrap64 ((x5.length:Int) - x7)) ≤ (x5.length:Int) then ((some (x5.drop ((wrap64 ((x5.length:Int) - x7)):Int).toNat:List Int)).bind fun y471=>(if y468.length + y471.length < 17592186044416 then (if x4.length < 4398046511104 then ((some (([]:List Int):List Int)).bind fun y481=>((some (x5.take ((wrap64 ((x5.length:Int) - x7)):Int).toNat:List Int)).bind fun y484=>(if y481.length + y484.length < 17592186044416 then ((some (y481 ++ y484:List Int)).bind fun y488=>(if y488.length < 17592186044416 then (bellpullref05_Parse.l0 k x0 (x4 ++ [(⟨bt x0 x6,(y468 ++ y471)⟩:S98)]) (y488 ++ [x6]) (wrap64 (x6 + 1))) else (none))) else (none)))) else (none)) else (none))) else (none)) else (none))) else (none)) else (none))) else (if x19=42 then (if (x5.length:Int) < 1 then (some (([]:List (S98)),false)) else (if 0 ≤ x6 then (if x6 < (x0.size:Int) then ((some (([]:List Int):List Int)).bind fun y494=>(if 0 ≤ (wrap64 ((x5.length:Int) - 1)) then (if (wrap64 ((x5.length:Int) - 1)) ≤ (x5.length:Int) then ((some (x5.drop ((wrap64 ((x5.length:Int) - 1)):Int).toNat:List Int)).bind fun y497=>(if y494.length + y497.length < 17592186044416 then (if x4.length < 4398046511104 then ((some (([]:List Int):List Int)).bind fun y507=>((some (x5.take ((wrap64 ((x5.length:Int) - 1)):Int).toNat:List Int)).bind fun y510=>(if y507.length + y510.length < 17592186044416 then ((some (y507 ++ y510:List Int)).bind fun y514=>(if y514.length < 17592186044416 then (bellpullref05_Parse.l0 k x0 (x4 ++ [(⟨bt x0 x6,(y494 ++ y497)⟩:S98)]) (y514 ++ [x6]) (wrap64 (x6 + 1))) else (none))) else (none)))) else (none)) else (none))) else (none)) else (none))) else (none)) else (none))) else (if x19=46 then (bellpullref05_Parse.j2 k x0 x4 x5 x6 (x19 == 46)) else (bellpullref05_Parse.j2 k x0 x4 x5 x6 (x19 == 43))))
def bellpullref05_Parse.j2:Nat → ByteArray → List (S98) → List Int → Int → Bool → Option ((List (S98)) × Bool)
  | 0,_,_,_,_,_=>none
  | k + 1,x0,x4,x5,x6,x27=>if x27=true then (if (x5.length:Int) < 2 then (some (([]:List (S98)),false)) else (if 0 ≤ x6 then (if x6 < (x0.size:Int) then ((some (([]:List Int):List Int)).bind fun y520=>(if 0 ≤ (wrap64 ((x5.length:Int) - 2)) then (if (wrap64 ((x5.length:Int) - 2)) ≤ (x5.length:Int) then ((some (x5.drop ((wrap64 ((x5.length:Int) - 2)):Int).toNat:List Int)).bind fun y523=>(if y520.length + y523.length < 17592186044416 then (if x4.length < 4398046511104 then ((some (([]:List Int):List Int)).bind fun y533=>((some (x5.take ((wrap64 ((x5.length:Int) - 2)):Int).toNat:List Int)).bind fun y536=>(if y533.length + y536.length < 17592186044416 then ((some (y533 ++ y536:List Int)).bind fun y540=>(if y540.length < 17592186044416 then (bellpullref05_Parse.l0 k x0 (x4 ++ [(⟨bt x0 x6,(y520 ++ y523)⟩:S98)]) (y540 ++ [x6]) (wrap64 (x6 + 1))) else (none))) else (none)))) else (none)) else (none))) else (none)) else (none))) else (none)) else (none))) else (some (([]:List (S98)),false))
end
def bellpullref05_Parse.f (k:Nat) (a0:ByteArray):Option ((List (S98)) × Bool):=bellpullref05_Parse.l0 k a0 (([]:List (S98))) (([]:List Int)) 0
def bellpullref05_Parse.T20:Bool × List (List Nat × List Nat):=(true,[([],[]),([],[]),([],[]),([1,2],[1,2]),([],[]),([],[]),([],[]),([],[]),([6,7],[6,7]),([5,8],[5,8]),([4,9],[4,9]),([3,10],[3,10]),([11],[11]),([0,12,10],[0,12]),([13,13,0,1,2,3,4,5,6,7,8,9,10,11,12,13],[0,13])])
def bellpullref05_Parse.B20:List Nat:=[0,0,0,6,0,0,0,0,192,480,1008,2046,4094,8191,16383]
theorem bellpullref05_Parse.tab20:rtab .any (opsOf Try.f27 20)=bellpullref05_Parse.T20:=by kernel_rfl
theorem bellpullref05_Parse.bits20:waitsOk bellpullref05_Parse.T20.2 bellpullref05_Parse.B20=true:=by kernel_rfl
set_option maxHeartbeats 8000000 in
set_option maxRecDepth 100000 in
theorem bellpullref05_Parse.calls (k:Nat) (G:ByteArray) (r1:List (S98)) (r2:Bool) (w:World) (h:bellpullref05_Parse.f k G=some (r1,r2)) :
    Calls Try.prog 27 #[.string G] w fun e w'=>∃ B4:Value,e=.returned (.tuple #[B4,.bool r2])∧Kd.S k98 98 w' w.heap.size (fun _=>True) B4 r1∧Below w.heap.size w w':=by
 have G5:=Try.underlying98;have I:=mk0 (Below.refl w.heap.size w);have H:(bellpullref05_Parse.l0 k G (([]:List (S98))) (([]:List Int)) 0)=some (r1,r2):=h;clear h;obtain ⟨n9,e4⟩:∃ y_:List (S98),y_=(([]:List (S98))):=⟨_,rfl⟩;(replace H:(bellpullref05_Parse.l0 k G n9 (([]:List Int)) 0)=some (r1,r2):=by first|(rw [e4];with_reducible exact H)|(have F:=(Option.bind_some _ _).symm.trans H;rw [e4];with_reducible exact F)|(have F:=(Option.bind_some _ _).symm.trans H;with_reducible exact F)|with_reducible exact H|(rw [e4];exact H)|exact H);have p0:=mk0 e4;clear e4;obtain ⟨t0,e5⟩:∃ y_:List Int,y_=(([]:List Int)):=⟨_,rfl⟩;(replace H:(bellpullref05_Parse.l0 k G n9 t0 0)=some (r1,r2):=by first|(rw [e5];with_reducible exact H)|(have F:=(Option.bind_some _ _).symm.trans H;rw [e5];with_reducible exact F)|(have F:=(Option.bind_some _ _).symm.trans H;with_reducible exact F)|with_reducible exact H|(rw [e5];exact H)|exact H);have p1:=mk0 e5;clear e5;have H':=mk0 H;clear H;go_enter Try.func27,Try.ntmps27;go_wp2_with (first|((with_reducible refine gate_dst (N:=9) rfl ?_);refine Kd.S_lit k98 _ 98 ?hg (N:=9) ?hd (xs:=([]:List (S98))) (inner:=[]) (ok:=fun _=>True) (okp:=fun _=>True) ?hr ?hp (fun _ hk=>hk) trivial (Below.refl _ _) (Nat.le_refl _) (by simp) ?_;(case hd=>rfl);(case hg=>rfl);(case hr=>first|(go_simp;done)|(go_simp;rfl));(case hp=>exact (Reps.none _ _));intro G6 w2 m9 hb hg_ b4;clear hg_ b4;(first|rw [← p0.1] at m9|(simp only [Int.reduceToNat] at m9;rw [← p0.1] at m9));have l4:=mk0 (Kd.S_lower m9 (below_size I.1));replace I:=bst I hb;clear hb m9)|((with_reducible refine gate_dst (N:=10) rfl ?_);refine Kd.R_lit (Kd.int .i64) _ 3 ?hg (N:=10) ?hd (xs:=([]:List Int)) (inner:=[]) (ok:=fun _=>True) (okp:=fun _=>True) ?hr ?hp (fun _ hk=>hk) trivial (Below.refl _ _) (Nat.le_refl _) (by simp) ?_;(case hd=>rfl);(case hg=>rfl);(case hr=>first|(go_simp;done)|(go_simp;rfl));(case hp=>exact (Reps.none _ _));intro G7 w4 j9 hb hg_ b4;clear hg_ b4;(first|rw [← p1.1] at j9|(simp only [Int.reduceToNat] at j9;rw [← p1.1] at j9));have y0:=mk0 (Kd.R_lower j9 (below_size I.1));replace l4:=mk0 (Kd.S_elder' l4.1 (Kd.R_base j9) hb);replace I:=bst I hb;clear hb j9));go_loopg [4,5,6] k (fun kq v4 v5 v6 w'=>∃ (L:List (S98)) (B:List Int) (D:Int),v6=.int .i64 D∧Aside0 (bellpullref05_Parse.l0 kq G L B D=some (r1,r2))∧Aside0 (kq ≤ k)∧Aside0 (Kd.S k98 98 w' w.heap.size (fun k_=>some k_ ≠ (v5:Value).ownBlock) v4 L)∧Aside0 (Kd.R (Kd.int .i64) 3 w' w.heap.size (fun _=>True) v5 B)∧Aside0 (Below w.heap.size w w'));case atStart=>exact ⟨(n9),(t0),(0),(by first|rfl|(simp;done)|(simp [*];done)),H',⟨Nat.le_refl _⟩,⟨by (with_reducible repeat (first|apply Kd.S_alloc|apply Kd.S_drewN|apply Kd.S_drew));exact Kd.S_mono l4.1 (fun _ hk=>hk.2)⟩,⟨by (with_reducible repeat (first|apply Kd.R_alloc|apply Kd.R_drewN|apply Kd.R_drew));exact y0.1⟩,⟨by repeat (first|(with_reducible first|exact I.1|apply below_alloc|apply pw_below_drewN|apply below_drew1)|exact I.1)⟩⟩
 case round =>
  (clear H';try clear c2);try clear p2
  obtain ⟨L,B,D,rfl,HA,d4,J,E,I⟩:=hrel;cases gk with
  | zero=>exact absurd HA.1 (by simp [bellpullref05_Parse.l0])
  | succ k1 =>
   have H:=HA.1;clear HA;simp only [bellpullref05_Parse.l0] at H;by_cases c6:D < (G.size:Int)
   ·
    rw [if_pos c6] at H;have c6b0:decide (D < (G.size:Int))=true:=decide_eq_true c6;clear c6;by_cases c7:0 ≤ D
    ·
     rw [if_pos c7] at H;have c7b0:decide (0 ≤ D)=true:=decide_eq_true c7;clear c7;have t1:=mk0 H;clear H;have p8:0 ≤ (D:Int):=of_decide_eq_true (by first|(with_reducible assumption)|assumption);have q8:D < (G.size:Int):=of_decide_eq_true (by first|(with_reducible assumption)|assumption);have E7:=bt_at G D;replace p8:=eq_true p8;replace q8:=eq_true q8;go_upto_if 20 with (fail);go_cut [20] (fun E8 wc=>∃ (kq:Nat) (i1:Bool),E8=.bool i1∧Aside0 (bellpullref05_Parse.j1 kq G L B D 0 (bt G D) i1=some (r1,r2))∧Aside0 (kq ≤ k1)∧Aside0 (Kd.S k98 98 wc w.heap.size (fun k_=>some k_ ≠ (u5:Value).ownBlock) u4 L)∧Aside0 (Kd.R (Kd.int .i64) 3 wc w.heap.size (fun _=>True) u5 B)∧Aside0 (Below w.heap.size w wc));case first =>have H:=t1.1;clear t1;by_cases c10:(bt G D)=97;(· rw [if_pos c10] at H;have c10b0:((bt G D) == 97)=true:=beq_iff_eq.mpr c10;have c10b1:((bt G D) != 97)=false:=bne_eq_false_iff_eq.mpr c10;clear c10;(first|rw [c10b0]|(simp only [i64_w,i32_w];rw [c10b0])|skip);have H':=mk0 H;clear H;go_wp2;go_meet;case rel=>exact ⟨_,(((bt G D) == 97)),(by first|rfl|(simp;done)|(simp [*];done)),H',⟨by have:=d4.1;first|omega|exact Nat.le_refl _⟩,⟨by (with_reducible repeat (first|apply Kd.S_alloc|apply Kd.S_drewN|apply Kd.S_drew));exact J.1⟩,⟨by (with_reducible repeat (first|apply Kd.R_alloc|apply Kd.R_drewN|apply Kd.R_drew));exact E.1⟩,⟨by repeat (first|(with_reducible first|exact I.1|apply below_alloc|apply pw_below_drewN|apply below_drew1)|exact I.1)⟩⟩);· rw [if_neg c10] at H;have c10b0:((bt G D) == 97)=false:=beq_eq_false_iff_ne.mpr c10;have c10b1:((bt G D) != 97)=true:=bne_iff_ne.mpr c10;(first|rw [c10b0]|(simp only [i64_w,i32_w];rw [c10b0])|skip);by_cases c11:(bt G D)=98;(· rw [if_pos c11] at H;have c11b0:((bt G D) == 98)=true:=beq_iff_eq.mpr c11;have c11b1:((bt G D) != 98)=false:=bne_eq_false_iff_eq.mpr c11;clear c11;have H':=mk0 H;clear H;go_wp2;go_meet;case rel=>exact ⟨_,(((bt G D) == 98)),(by first|rfl|(simp;done)|(simp [*];done)),H',⟨by have:=d4.1;first|omega|exact Nat.le_refl _⟩,⟨by (with_reducible repeat (first|apply Kd.S_alloc|apply Kd.S_drewN|apply Kd.S_drew));exact J.1⟩,⟨by (with_reducible repeat (first|apply Kd.R_alloc|apply Kd.R_drewN|apply Kd.R_drew));exact E.1⟩,⟨by repeat (first|(with_reducible first|exact I.1|apply below_alloc|apply pw_below_drewN|apply below_drew1)|exact I.1)⟩⟩);· rw [if_neg c11] at H;have c11b0:((bt G D) == 98)=false:=beq_eq_false_iff_ne.mpr c11;have c11b1:((bt G D) != 98)=true:=bne_iff_ne.mpr c11;by_cases c12:(bt G D)=99;(· rw [if_pos c12] at H;have c12b0:((bt G D) == 99)=true:=beq_iff_eq.mpr c12;have c12b1:((bt G D) != 99)=false:=bne_eq_false_iff_eq.mpr c12;clear c12;have H':=mk0 H;clear H;go_wp2;go_meet;case rel=>exact ⟨_,(((bt G D) == 99)),(by first|rfl|(simp;done)|(simp [*];done)),H',⟨by have:=d4.1;first|omega|exact Nat.le_refl _⟩,⟨by (with_reducible repeat (first|apply Kd.S_alloc|apply Kd.S_drewN|apply Kd.S_drew));exact J.1⟩,⟨by (with_reducible repeat (first|apply Kd.R_alloc|apply Kd.R_drewN|apply Kd.R_drew));exact E.1⟩,⟨by repeat (first|(with_reducible first|exact I.1|apply below_alloc|apply pw_below_drewN|apply below_drew1)|exact I.1)⟩⟩);· rw [if_neg c12] at H;have c12b0:((bt G D) == 99)=false:=beq_eq_false_iff_ne.mpr c12;have c12b1:((bt G D) != 99)=true:=bne_iff_ne.mpr c12;have H':=mk0 H;clear H;go_wp2;go_meet;case rel=>exact ⟨_,(((bt G D) == 101)),(by first|rfl|(simp;done)|(simp [*];done)),H',⟨by have:=d4.1;first|omega|exact Nat.le_refl _⟩,⟨by (with_reducible repeat (first|apply Kd.S_alloc|apply Kd.S_drewN|apply Kd.S_drew));exact J.1⟩,⟨by (with_reducible repeat (first|apply Kd.R_alloc|apply Kd.R_drewN|apply Kd.R_drew));exact E.1⟩,⟨by repeat (first|(with_reducible first|exact I.1|apply below_alloc|apply pw_below_drewN|apply below_drew1)|exact I.1)⟩⟩
     case rest =>
      (clear t1;try clear c1);(try clear c2);(try clear p2);(try clear c6);(try clear c6b0);(try clear c7);(try clear c7b0);(try clear p8);(try clear q8);(try clear E7);(try clear c10);(try clear c10b0);(try clear c10b1);(try clear c11);(try clear c11b0);(try clear c11b1);(try clear c12);(try clear c12b0);(try clear c12b1);(try clear p2);(try clear p8);try clear q8
      obtain ⟨kq,i1,rfl,HA,i0,J,E,I⟩:=hcut;cases kq with
      | zero=>exact absurd HA.1 (by simp [bellpullref05_Parse.j1])
      | succ kj8 =>
       have H:=HA.1;clear HA;simp only [bellpullref05_Parse.j1] at H;by_cases n0:i1=true;· (subst n0;have H1:(if (B.length:Int) < 0 then (some (([]:List (S98)),false)) else (if 0 ≤ D then (if D < (G.size:Int) then ((some (([]:List Int):List Int)).bind fun c8=>(if 0 ≤ (wrap64 ((B.length:Int) - 0)) then (if (wrap64 ((B.length:Int) - 0)) ≤ (B.length:Int) then ((some (B.drop ((wrap64 ((B.length:Int) - 0)):Int).toNat:List Int)).bind fun a2=>(if c8.length + a2.length < 17592186044416 then (if L.length < 4398046511104 then ((some (([]:List Int):List Int)).bind fun a6=>((some (B.take ((wrap64 ((B.length:Int) - 0)):Int).toNat:List Int)).bind fun U=>(if a6.length + U.length < 17592186044416 then ((some (a6 ++ U:List Int)).bind fun Y=>(if Y.length < 17592186044416 then (bellpullref05_Parse.l0 kj8 G (L ++ [(⟨bt G D,(c8 ++ a2)⟩:S98)]) (Y ++ [D]) (wrap64 (D + 1))) else (none))) else (none)))) else (none)) else (none))) else (none)) else (none))) else (none)) else (none)))=some (r1,r2):=by rw [if_pos rfl] at H;exact H);clear H;have H:=H1;clear H1;by_cases c14:(B.length:Int) < 0;(· rw [if_pos c14] at H;have c14b0:decide ((B.length:Int) < 0)=true:=decide_eq_true c14;have c14b1:decide (B.length < 0)=true:=decide_eq_true (by omega);clear c14;simp only [Option.some.injEq,Prod.mk.injEq] at H;obtain ⟨rfl,rfl⟩:=H;obtain ⟨H0,H2,C7⟩:=Kd.R_slice E.1;subst C7;go_wp2;go_ret2;exact ⟨_,by first|rfl|(simp [errW_none,errW_some] <;> rfl)|(simp [*,errW_none,errW_some] <;> rfl),by first|exact Kd.S_nil _ _ _ _ _|exact Kd.N_nil _ _ _ _ _|exact Kd.V_nil _ _ _ _ _|exact Kd.Q_nil _ _ _ _ _|exact Kd.R_nil _ _ _ _ _,by repeat (first|(with_reducible first|exact I.1|apply below_alloc|apply pw_below_drewN|apply below_drew1)|exact I.1)⟩);· rw [if_neg c14] at H;have c14b0:decide ((B.length:Int) < 0)=false:=decide_eq_false c14;have c14b1:decide (B.length < 0)=false:=decide_eq_false (by omega);clear c14;by_cases c16:0 ≤ D;(· rw [if_pos c16] at H;have c16b0:decide (0 ≤ D)=true:=decide_eq_true c16;clear c16;by_cases c17:D < (G.size:Int);(· rw [if_pos c17] at H;have c17b0:decide (D < (G.size:Int))=true:=decide_eq_true c17;clear c17;obtain ⟨c8,e6⟩:∃ y_:List Int,y_=(([]:List Int)):=⟨_,rfl⟩;(replace H:(if 0 ≤ (wrap64 ((B.length:Int) - 0)) then (if (wrap64 ((B.length:Int) - 0)) ≤ (B.length:Int) then ((some (B.drop ((wrap64 ((B.length:Int) - 0)):Int).toNat:List Int)).bind fun a2=>(if c8.length + a2.length < 17592186044416 then (if L.length < 4398046511104 then ((some (([]:List Int):List Int)).bind fun a6=>((some (B.take ((wrap64 ((B.length:Int) - 0)):Int).toNat:List Int)).bind fun U=>(if a6.length + U.length < 17592186044416 then ((some (a6 ++ U:List Int)).bind fun Y=>(if Y.length < 17592186044416 then (bellpullref05_Parse.l0 kj8 G (L ++ [(⟨bt G D,(c8 ++ a2)⟩:S98)]) (Y ++ [D]) (wrap64 (D + 1))) else (none))) else (none)))) else (none)) else (none))) else (none)) else (none))=some (r1,r2):=by first|(rw [e6];with_reducible exact H)|(have F:=(Option.bind_some _ _).symm.trans H;rw [e6];with_reducible exact F)|(have F:=(Option.bind_some _ _).symm.trans H;with_reducible exact F)|with_reducible exact H|(rw [e6];exact H)|exact H);have p3:=mk0 e6;clear e6;obtain ⟨M,i2⟩:∃ j_:Int,(wrap64 ((B.length:Int) - 0))=j_:=⟨_,rfl⟩;(replace H:(if 0 ≤ (M) then (if (M) ≤ (B.length:Int) then ((some (B.drop ((M):Int).toNat:List Int)).bind fun a2=>(if c8.length + a2.length < 17592186044416 then (if L.length < 4398046511104 then ((some (([]:List Int):List Int)).bind fun a6=>((some (B.take ((M):Int).toNat:List Int)).bind fun U=>(if a6.length + U.length < 17592186044416 then ((some (a6 ++ U:List Int)).bind fun Y=>(if Y.length < 17592186044416 then (bellpullref05_Parse.l0 kj8 G (L ++ [(⟨bt G D,(c8 ++ a2)⟩:S98)]) (Y ++ [D]) (wrap64 (D + 1))) else (none))) else (none)))) else (none)) else (none))) else (none)) else (none))=some (r1,r2):=by first|(rw [i2] at H;exact H)|(simp only [i2] at H ⊢;exact H));have hji19w:(IntKind.i64.wrap ((B.length:Int) - 0))=M:=(i64_w _).trans i2;have y3:wrap64 (B.length:Int)=M:=(by have e_:=i2;rw [Int.sub_zero] at e_;exact e_);have F8:IntKind.i64.wrap (B.length:Int)=M:=(i64_w _).trans y3;by_cases c20:0 ≤ (M);(· rw [if_pos c20] at H;have c20b0:=eq_true c20;have c20b1:decide (0 ≤ (M))=true:=decide_eq_true c20;clear c20;by_cases c21:(M) ≤ (B.length:Int);(· rw [if_pos c21] at H;have c21b0:=eq_true c21;have c21b1:decide ((M) ≤ (B.length:Int))=true:=decide_eq_true c21;clear c21;obtain ⟨a2,e7⟩:∃ y_:List Int,y_=(B.drop ((M):Int).toNat):=⟨_,rfl⟩;(replace H:(if c8.length + a2.length < 17592186044416 then (if L.length < 4398046511104 then ((some (([]:List Int):List Int)).bind fun a6=>((some (B.take ((M):Int).toNat:List Int)).bind fun U=>(if a6.length + U.length < 17592186044416 then ((some (a6 ++ U:List Int)).bind fun Y=>(if Y.length < 17592186044416 then (bellpullref05_Parse.l0 kj8 G (L ++ [(⟨bt G D,(c8 ++ a2)⟩:S98)]) (Y ++ [D]) (wrap64 (D + 1))) else (none))) else (none)))) else (none)) else (none))=some (r1,r2):=by first|(rw [e7];with_reducible exact H)|(have F:=(Option.bind_some _ _).symm.trans H;rw [e7];with_reducible exact F)|(have F:=(Option.bind_some _ _).symm.trans H;with_reducible exact F)|with_reducible exact H|(rw [e7];exact H)|exact H);have d5:=mk0 e7;clear e7;by_cases c22:c8.length + a2.length < 17592186044416;(· rw [if_pos c22] at H;have y4:=mk0 c22;clear c22;obtain ⟨h1,e8⟩:∃ y_:List Int,y_=(c8 ++ a2):=⟨_,rfl⟩;(replace H:(if L.length < 4398046511104 then ((some (([]:List Int):List Int)).bind fun a6=>((some (B.take ((M):Int).toNat:List Int)).bind fun U=>(if a6.length + U.length < 17592186044416 then ((some (a6 ++ U:List Int)).bind fun Y=>(if Y.length < 17592186044416 then (bellpullref05_Parse.l0 kj8 G (L ++ [(⟨bt G D,h1⟩:S98)]) (Y ++ [D]) (wrap64 (D + 1))) else (none))) else (none)))) else (none))=some (r1,r2):=by first|(rw [e8];with_reducible exact H)|(have F:=(Option.bind_some _ _).symm.trans H;rw [e8];with_reducible exact F)|(have F:=(Option.bind_some _ _).symm.trans H;with_reducible exact F)|with_reducible exact H|(rw [e8];exact H)|exact H);have y5:=mk0 e8;clear e8;by_cases c23:L.length < 4398046511104;(· rw [if_pos c23] at H;have y6:=mk0 c23;clear c23;obtain ⟨h2,e9⟩:∃ y_:List (S98),y_=(L ++ [(⟨bt G D,h1⟩:S98)]):=⟨_,rfl⟩;(replace H:((some (([]:List Int):List Int)).bind fun a6=>((some (B.take ((M):Int).toNat:List Int)).bind fun U=>(if a6.length + U.length < 17592186044416 then ((some (a6 ++ U:List Int)).bind fun Y=>(if Y.length < 17592186044416 then (bellpullref05_Parse.l0 kj8 G h2 (Y ++ [D]) (wrap64 (D + 1))) else (none))) else (none))))=some (r1,r2):=by first|(rw [e9];with_reducible exact H)|(have F:=(Option.bind_some _ _).symm.trans H;rw [e9];with_reducible exact F)|(have F:=(Option.bind_some _ _).symm.trans H;with_reducible exact F)|with_reducible exact H|(rw [e9];exact H)|exact H);have y7:=mk0 e9;clear e9;obtain ⟨a6,f0⟩:∃ y_:List Int,y_=(([]:List Int)):=⟨_,rfl⟩;(replace H:((some (B.take ((M):Int).toNat:List Int)).bind fun U=>(if a6.length + U.length < 17592186044416 then ((some (a6 ++ U:List Int)).bind fun Y=>(if Y.length < 17592186044416 then (bellpullref05_Parse.l0 kj8 G h2 (Y ++ [D]) (wrap64 (D + 1))) else (none))) else (none)))=some (r1,r2):=by first|(rw [f0];with_reducible exact H)|(have F:=(Option.bind_some _ _).symm.trans H;rw [f0];with_reducible exact F)|(have F:=(Option.bind_some _ _).symm.trans H;with_reducible exact F)|with_reducible exact H|(rw [f0];exact H)|exact H);have p5:=mk0 f0;clear f0;have c24b0:=eq_true (of_decide_eq_true (by first|(with_reducible assumption)|assumption):0 ≤ (M));have c25b0:=eq_true (of_decide_eq_true (by first|(with_reducible assumption)|assumption):(M) ≤ (B.length:Int));obtain ⟨U,f1⟩:∃ y_:List Int,y_=(B.take ((M):Int).toNat):=⟨_,rfl⟩;(replace H:(if a6.length + U.length < 17592186044416 then ((some (a6 ++ U:List Int)).bind fun Y=>(if Y.length < 17592186044416 then (bellpullref05_Parse.l0 kj8 G h2 (Y ++ [D]) (wrap64 (D + 1))) else (none))) else (none))=some (r1,r2):=by first|(rw [f1];with_reducible exact H)|(have F:=(Option.bind_some _ _).symm.trans H;rw [f1];with_reducible exact F)|(have F:=(Option.bind_some _ _).symm.trans H;with_reducible exact F)|with_reducible exact H|(rw [f1];exact H)|exact H);have i3:=mk0 f1;clear f1;by_cases c26:a6.length + U.length < 17592186044416;(· rw [if_pos c26] at H;have y8:=mk0 c26;clear c26;obtain ⟨Y,f2⟩:∃ y_:List Int,y_=(a6 ++ U):=⟨_,rfl⟩;(replace H:(if Y.length < 17592186044416 then (bellpullref05_Parse.l0 kj8 G h2 (Y ++ [D]) (wrap64 (D + 1))) else (none))=some (r1,r2):=by first|(rw [f2];with_reducible exact H)|(have F:=(Option.bind_some _ _).symm.trans H;rw [f2];with_reducible exact F)|(have F:=(Option.bind_some _ _).symm.trans H;with_reducible exact F)|with_reducible exact H|(rw [f2];exact H)|exact H);have y9:=mk0 f2;clear f2;by_cases c27:Y.length < 17592186044416;(· rw [if_pos c27] at H;have z0:=mk0 c27;clear c27;obtain ⟨t2,f3⟩:∃ y_:List Int,y_=(Y ++ [D]):=⟨_,rfl⟩;(replace H:(bellpullref05_Parse.l0 kj8 G h2 t2 (wrap64 (D + 1)))=some (r1,r2):=by first|(rw [f3];with_reducible exact H)|(have F:=(Option.bind_some _ _).symm.trans H;rw [f3];with_reducible exact F)|(have F:=(Option.bind_some _ _).symm.trans H;with_reducible exact F)|with_reducible exact H|(rw [f3];exact H)|exact H);(have z1:=mk0 f3;clear f3;have H':=mk0 H;clear H;obtain ⟨b5,a9,C8⟩:=Kd.R_slice E.1;subst C8;try go_wp2);replace J:=mk0 (Kd.S_drew J.1);replace E:=rdr E;replace I:=hdr I;have B5:0 ≤ (D:Int):=of_decide_eq_true (by first|(with_reducible assumption)|assumption);have B6:D < (G.size:Int):=of_decide_eq_true (by first|(with_reducible assumption)|assumption);have H3:=bt_at G D;replace B5:=eq_true B5;replace B6:=eq_true B6;have t3:((M):Int) ≤ ((B.length:Int):Int):=of_decide_eq_true (by first|(with_reducible assumption)|assumption);obtain ⟨H4,p7,_,p9,_⟩:=info_parts info3;have h3:B.length ≤ a9:=(Kd.R_reads' E.1).2.1;have t4:Kd.C (Kd.int .i64) _ b5 B.length B:=(Kd.R_reads' E.1).2.2;have C9:(0:Int) ≤ ((M):Int):=of_decide_eq_true (by first|(with_reducible assumption)|assumption);have t5:=cut_from (P:=Try.prog) 23 3 .i64 Try.underlying23 p7 1 p9 b5 B.length a9 (M) C9 t3;have j5:=Kd.C_drop (m:=((M):Int).toNat) (c:=a9) t4 (by omega) h3;obtain ⟨n1,l5⟩:∃ AA,AA=(if a9=((M):Int).toNat then b5 else (b5:Option Addr).map (·.add (((M):Int).toNat * 1))):=⟨_,rfl⟩;obtain ⟨E9,o0⟩:∃ cc,cc=a9 - ((M):Int).toNat:=⟨_,rfl⟩;have l6:a2.length=B.length - ((M):Int).toNat:=(by rw [d5.1,l0_] <;> omega);rw [show (B).drop ((M):Int).toNat=a2 from d5.1.symm] at j5;replace j5:Kd.C (Kd.int .i64) _ n1 a2.length a2:=(by rw [l5];exact j5);rw [← l6,← l5,← o0] at t5;have b9:=mk0 j5;have F9:=mk0 (show a2.length ≤ E9 from by rw [l6,o0];exact Nat.sub_le_sub_right h3 _);clear j5 t4 h3 p7 p9 o0;have H5:=mk0 l6;have l7:=mk0 l5;clear l6 l5;have l8:=mk0 (show ((M):Int).toNat ≤ B.length from by omega);replace t3:=eq_true t3;refine start_ (n:=15) (S:=fun w'=>True) (ds:=[]) #[n_,n_,n_,n_,n_,n_,n_,n_,n_,n_,n_,n_,n_,n_,n_] (by kernel_rfl) rfl rfl trivial (fun a5=>?_);refine with_tabW bellpullref05_Parse.tab20 bellpullref05_Parse.bits20 (fun T n2=>?_);generalize wc.drew=L2 at J E I b9 a5 ⊢;refine pure_ (i:=0) (N:=some 35) (v:=?_) (a':=?_) #[y_,n_,n_,n_,n_,n_,n_,n_,n_,n_,n_,n_,n_,n_,n_] rfl rfl (any_of T.1 (by kernel_rfl)) (fun _ _ _ h=>h) (Or.inl ⟨by rfl,?_⟩) ?_ ?_;rotate_left;(· intro w';go_simp;with_reducible rfl);rotate_left;(· simp only [Act.put,s0_,s1_,s2_,i64_w,i32_w];rfl);refine pure_ (i:=1) (N:=some 36) (v:=?_) (a':=?_) #[y_,y_,n_,n_,n_,n_,n_,n_,n_,n_,n_,n_,n_,n_,n_] rfl rfl (any_of T.1 (by kernel_rfl)) (fun _ _ _ h=>h) (Or.inl ⟨by rfl,?_⟩) ?_ ?_;rotate_left;(· intro w';go_simp;with_reducible rfl);rotate_left;(· simp only [Act.put,s0_,s1_,s2_,i64_w,i32_w];rfl);refine pure_ (i:=2) (N:=some 37) (v:=?_) (a':=?_) #[y_,y_,y_,n_,n_,n_,n_,n_,n_,n_,n_,n_,n_,n_,n_] rfl rfl (any_of T.1 (by kernel_rfl)) (fun _ _ _ h=>h) (Or.inl ⟨by rfl,?_⟩) ?_ ?_;rotate_left;(· intro w';go_simp;with_reducible rfl);rotate_left;(· simp only [Act.put,s0_,s1_,s2_,i64_w,i32_w];rfl);refine pure_ (i:=5) (N:=some 40) (v:=?_) (a':=?_) #[y_,y_,y_,n_,n_,y_,n_,n_,n_,n_,n_,n_,n_,n_,n_] rfl rfl (any_of T.1 (by kernel_rfl)) (fun _ _ _ h=>h) (Or.inl ⟨by rfl,?_⟩) ?_ ?_;rotate_left;(· intro w';go_simp;with_reducible rfl);rotate_left;(· simp only [Act.put,s0_,s1_,s2_,i64_w,i32_w];rfl);refine pure_ (i:=6) (N:=some 41) (v:=?_) (a':=?_) #[y_,y_,y_,n_,n_,y_,y_,n_,n_,n_,n_,n_,n_,n_,n_] rfl rfl (any_of T.1 (by kernel_rfl)) (fun _ _ _ h=>h) (Or.inl ⟨by rfl,?_⟩) ?_ ?_;rotate_left;(· intro w';go_simp;with_reducible rfl);rotate_left;(· simp only [Act.put,s0_,s1_,s2_,i64_w,i32_w];rfl);refine pure_ (i:=7) (N:=some 42) (v:=?_) (a':=?_) #[y_,y_,y_,n_,n_,y_,y_,y_,n_,n_,n_,n_,n_,n_,n_] rfl rfl (any_of T.1 (by kernel_rfl)) (fun _ _ _ h=>h) (Or.inl ⟨by rfl,?_⟩) ?_ ?_;rotate_left;(· intro w';go_simp;with_reducible rfl);rotate_left;(· simp only [Act.put,s0_,s1_,s2_,i64_w,i32_w];rfl);refine pure_ (i:=8) (N:=some 43) (v:=?_) (a':=?_) #[y_,y_,y_,n_,n_,y_,y_,y_,y_,n_,n_,n_,n_,n_,n_] rfl rfl (any_of T.1 (by kernel_rfl)) (fun _ _ _ h=>h) (Or.inl ⟨by rfl,?_⟩) ?_ ?_;rotate_left;(· intro w';go_simp;with_reducible rfl);rotate_left;(· simp only [Act.put,s0_,s1_,s2_,i64_w,i32_w];rfl);refine pure_ (i:=9) (N:=some 44) (v:=?_) (a':=?_) #[y_,y_,y_,n_,n_,y_,y_,y_,y_,y_,n_,n_,n_,n_,n_] rfl rfl (any_of T.1 (by kernel_rfl)) (fun _ _ _ h=>h) (Or.inl ⟨by rfl,?_⟩) ?_ ?_;rotate_left;(· intro w';go_simp;with_reducible rfl);rotate_left;(· simp only [Act.put,s0_,s1_,s2_,i64_w,i32_w];rfl);refine take_ (i:=3) (N:=some 38) (v:=?_) (a':=?_) #[y_,y_,y_,y_,n_,y_,y_,y_,y_,y_,n_,n_,n_,n_,n_] rfl rfl (take_ofW T.1 n2.1 (by kernel_rfl)) (fun _ _ _ h=>h) (Or.inl ⟨by rfl,?_⟩) a5 ?_ ?_;rotate_left;(· intro w' _;go_simp;with_reducible rfl);rotate_left;(· simp only [Act.put,s0_,s1_,s2_,i64_w,i32_w];rfl);refine one_ (i:=4) (N:=some 39) #[y_,y_,y_,y_,y_,y_,y_,y_,y_,y_,n_,n_,n_,n_,n_] rfl rfl (one_of T.1 (by kernel_rfl)) (by decide) (fun K hK=>?_);refine Kd.R_lit_step (Kd.int .i64) _ 3 ?hg (N:=39) ?hd (xs:=([]:List Int)) (inner:=[]) (ok:=fun _=>True) (okp:=fun _=>True) ?hr ?hp (fun _ hk=>hk) trivial (Below.refl _ _) (Nat.le_refl _) (by simp) ?_;(case hd=>rfl);(case hg=>rfl);(case hr=>first|(go_simp;done)|(go_simp;rfl));(case hp=>exact (Reps.none _ _));intro D0 L3 d8 hb hg_ b4;clear hg_ b4;(first|rw [← p3.1] at d8|(simp only [Int.reduceToNat] at d8;rw [← p3.1] at d8));have q0:=mk0 (Kd.R_lower (Kd.R_new' d8 (Kd.R_lt E.1)) (below_size I.1));replace J:=mk0 (Kd.S_elder' J.1 (Kd.R_base d8) hb);replace E:=mk0 (Kd.R_elder' E.1 (Kd.R_base d8) hb);replace b9:=mk0 (Kd.C_below (by repeat (first|(with_reducible exact b9.1)|(with_reducible refine Kd.C_alloc ?_ _)|(with_reducible refine Kd.C_drewN ?_ _)|(with_reducible refine Kd.C_drew ?_)|exact b9.1)) hb);replace I:=bst I hb;clear hb d8;refine hK.out _ _ trivial (fun a5=>?_);clear hK K;refine norm_ (a':=?_) ?_ ?_;rotate_left;(· show Act.put _ (some 39) _=_;simp only [Act.put,s0_,s1_,s2_,i64_w,i32_w];rfl);refine one_ (i:=10) (N:=some 45) #[y_,y_,y_,y_,y_,y_,y_,y_,y_,y_,y_,n_,n_,n_,n_] rfl rfl (one_of T.1 (by kernel_rfl)) (by decide) (fun K hK=>?_);refine Kd.R_append_rows_step (Kd.int .i64) (w0:=w) w.heap.size (by rfl) (.tmp 39) (.tmp 44) 23 3 (.int .i64 0) 8 rfl Try.underlying23 info3 rfl (by decide) (by omega) D0 c8 a2 _ _ _ (fun k_=>some k_ ≠ (.slice b5 B.length a9:Value).ownBlock) (fun _=>False) rfl rfl ?aO ?aR (fun _ _ h=>h) (fun _ h=>h.elim) ?aF ?aB ?aS ?aL ?_;(case aR=>repeat (first|exact (by repeat (first|(with_reducible exact b9.1)|(with_reducible refine Kd.C_alloc ?_ _)|(with_reducible refine Kd.C_drewN ?_ _)|(with_reducible refine Kd.C_drew ?_)|exact b9.1))|(with_reducible refine Kd.C_alloc ?_ _)|(with_reducible refine Kd.C_drewN ?_ _)|(with_reducible refine Kd.C_drew ?_)));(case aB=>exact I.1);(case aF=>exact (fun k_ hk=>Kd.fresh' (Kd.R_lt E.1) k_ hk));(case aO=>exact (by (with_reducible repeat (first|apply Kd.R_alloc|apply Kd.R_drewN|apply Kd.R_drew));exact Kd.R_mono q0.1 (fun _ hk=>hk.2)));(case aS=>exact (below_size I.1));(case aL=>have:=y4.1;omega);intro H6 F0 ho hb hg hat;rw [← y5.1] at ho;have i4:=mk0 (ho);replace J:=mk0 (Kd.S_after (ok:=(fun k_=>some k_ ≠ (.slice b5 B.length a9:Value).ownBlock)) J.1 hg hat);replace I:=mk0 (hb);replace b9:=mk0 ((show Kd.C (Kd.int .i64) F0 n1 a2.length a2 from by rw [d5.1,l7.1];exact Kd.C_drop (m:=((M):Int).toNat) (c:=a9) ((Kd.R_reads' (Kd.R_after (ok:=(fun _=>True)) E.1 hg hat)).2.2) l8.1 ((Kd.R_reads' (Kd.R_after (ok:=(fun _=>True)) E.1 hg hat)).2.1)));replace E:=mk0 (Kd.R_after (ok:=(fun _=>True)) E.1 hg hat);clear q0;clear ho hb hg hat;obtain ⟨t6,t7,t8⟩:=Kd.R_slice i4.1;(first|subst t8|(injection t8 with f1_ f2_ f3_;have f4_:=f1_.symm;have n3:=f3_.symm;clear f1_ f2_ f3_;subst f4_;subst n3));refine hK.out _ _ trivial (fun a5=>?_);clear hK K;refine norm_ (a':=?_) ?_ ?_;rotate_left;(· show Act.put _ (some 45) _=_;simp only [Act.put,s0_,s1_,s2_,i64_w,i32_w];rfl);refine pure_ (i:=11) (N:=some 46) (v:=?_) (a':=?_) #[y_,y_,y_,y_,y_,y_,y_,y_,y_,y_,y_,y_,n_,n_,n_] rfl rfl (any_of T.1 (by kernel_rfl)) (fun _ _ _ h=>h) (Or.inl ⟨by rfl,?_⟩) ?_ ?_;rotate_left;(· intro w';go_simp;with_reducible rfl);rotate_left;(· simp only [Act.put,s0_,s1_,s2_,i64_w,i32_w];rfl);refine one_ (i:=12) (N:=some 47) #[y_,y_,y_,y_,y_,y_,y_,y_,y_,y_,y_,y_,y_,n_,n_] rfl rfl (one_of T.1 (by kernel_rfl)) (by decide) (fun K hK=>?_);refine value_ (w1:=?_) (v:=?_) (by rfl) rfl ?_ ?_;rotate_left 2;(· go_simp;constructor;(· rfl);· rfl);refine hK.out _ _ trivial (fun a5=>?_);clear hK K;refine norm_ (a':=?_) ?_ ?_;rotate_left;(· show Act.put _ (some 47) _=_;simp only [Act.put,s0_,s1_,s2_,i64_w,i32_w];rfl);refine one_ (i:=13) (N:=some 48) #[y_,y_,y_,y_,y_,y_,y_,y_,y_,y_,y_,y_,y_,y_,n_] rfl rfl (one_of T.1 (by kernel_rfl)) (by decide) (fun K hK=>?_);refine Kd.S_append_step k98 (w0:=w) w.heap.size (by rfl) (.tmp 35) (.tmp 47) 39 98 (.agg #[(.int .u8 0),(.slice none 0 0)]) 32 rfl Try.underlying39 info98 rfl (by decide) (by omega) u4 L (⟨bt G D,h1⟩:S98) [.int .u8 (bt G D),.slice t6 h1.length t7] (fun k_=>some k_ ≠ (.slice b5 B.length a9:Value).ownBlock) (fun k_=>some k_=(.slice t6 h1.length t7:Value).ownBlock) rfl rfl ?aP (fun k_ hk_=>((Kd.R_mono (ok':=fun k_=>((fun k_=>some k_ ≠ (.slice b5 B.length a9:Value).ownBlock)) k_∧some k_ ≠ (u4:Value).ownBlock) (Kd.R_apart' (i4.1) (Kd.S_typed J.1) (by decide)) (fun k_ hk=>⟨hk.1,hk.2⟩))).1 k_ hk_.symm) ?aF ?aO ?aB ?aS ?aL ?_;(case aP=>exact k98_mkM _ _ _ (⟨bt G D,h1⟩:S98) (Kd.R_mono (Kd.R_tight rfl (Kd.R_mono (ok':=fun k_=>((fun k_=>some k_ ≠ (.slice b5 B.length a9:Value).ownBlock)) k_∧some k_ ≠ (u4:Value).ownBlock) (Kd.R_apart' (i4.1) (Kd.S_typed J.1) (by decide)) (fun k_ hk=>⟨hk.1,hk.2⟩))) (fun _ h_=>h_)));(case aB=>exact I.1);(case aF=>exact (fun k_ hk=>Kd.fresh' (Kd.R_lt E.1) k_ hk));(case aO=>exact (by (with_reducible repeat (first|apply Kd.S_alloc|apply Kd.S_drewN|apply Kd.S_drew));exact Kd.S_mono J.1 (fun k_ hk=>⟨hk.1,fun e_=>hk.2 e_⟩)));(case aS=>exact (below_size I.1));(case aL=>have:=y6.1;omega);intro H7 F1 ho hb hg hat;rw [← y7.1] at ho;have d1:=mk0 (ho);replace I:=mk0 (hb);replace b9:=mk0 ((show Kd.C (Kd.int .i64) F1 n1 a2.length a2 from by rw [d5.1,l7.1];exact Kd.C_drop (m:=((M):Int).toNat) (c:=a9) ((Kd.R_reads' (Kd.R_over' E.1 (Kd.S_typed J.1) (by decide) hg)).2.2) l8.1 ((Kd.R_reads' (Kd.R_over' E.1 (Kd.S_typed J.1) (by decide) hg)).2.1)));replace E:=mk0 (Kd.R_over' E.1 (Kd.S_typed J.1) (by decide) hg);clear J;clear i4;clear ho hb hg hat;refine hK.out _ _ trivial (fun a5=>?_);clear hK K;refine norm_ (a':=?_) ?_ ?_;rotate_left;(· show Act.put _ (some 48) _=_;simp only [Act.put,s0_,s1_,s2_,i64_w,i32_w];rfl);refine pure_ (i:=14) (N:=some 4) (v:=?_) (a':=?_) #[y_,y_,y_,y_,y_,y_,y_,y_,y_,y_,y_,y_,y_,y_,y_] rfl rfl (any_of T.1 (by kernel_rfl)) (fun _ _ _ h=>h) (Or.inl ⟨by rfl,?_⟩) ?_ ?_;rotate_left;(· intro w';go_simp;with_reducible rfl);rotate_left;(· simp only [Act.put,s0_,s1_,s2_,i64_w,i32_w];rfl);(refine done_ (done_of T.1 (by kernel_rfl)) ?_;try go_wp2_with (first|((with_reducible refine gate_dst (N:=49) rfl ?_);refine Kd.R_lit (Kd.int .i64) _ 3 ?hg (N:=49) ?hd (xs:=([]:List Int)) (inner:=[]) (ok:=fun _=>True) (okp:=fun _=>True) ?hr ?hp (fun _ hk=>hk) trivial (Below.refl _ _) (Nat.le_refl _) (by simp) ?_;(case hd=>rfl);(case hg=>rfl);(case hr=>first|(go_simp;done)|(go_simp;rfl));(case hp=>exact (Reps.none _ _));intro D1 L4 d9 hb hg_ b4;clear hg_ b4;(first|rw [← p5.1] at d9|(simp only [Int.reduceToNat] at d9;rw [← p5.1] at d9));have q1:=mk0 (Kd.R_lower (Kd.R_new' d9 (Kd.R_lt E.1)) (below_size I.1));replace E:=mk0 (Kd.R_elder' E.1 (Kd.R_base d9) hb);replace d1:=mk0 (Kd.S_elder' d1.1 (Kd.R_base d9) hb);replace b9:=mk0 (Kd.C_below (by repeat (first|(with_reducible exact b9.1)|(with_reducible refine Kd.C_alloc ?_ _)|(with_reducible refine Kd.C_drewN ?_ _)|(with_reducible refine Kd.C_drew ?_)|exact b9.1)) hb);replace I:=bst I hb;clear hb d9;have n4:((M):Int) ≤ ((B.length:Int):Int):=of_decide_eq_true (by first|(with_reducible assumption)|assumption);obtain ⟨H8,q2,_,z2,_⟩:=info_parts info3;have l1:B.length ≤ a9:=(Kd.R_reads' E.1).2.1;have t9:Kd.C (Kd.int .i64) _ b5 B.length B:=(Kd.R_reads' E.1).2.2;have u0:=cut_to (P:=Try.prog) 23 3 .i64 Try.underlying23 q2 b5 B.length a9 (M) (of_decide_eq_true (by first|(with_reducible assumption)|assumption)) n4 l1;have o1:=Kd.C_take (m:=((M):Int).toNat) t9 (by omega);have o2:U.length=((M):Int).toNat:=(by rw [i3.1,l1_];omega);rw [← i3.1] at o1;rw [← o2] at u0;have i5:=mk0 o1;have G0:=mk0 (show U.length ≤ a9 from by omega);clear o1 t9 l1 q2 z2;have H9:=mk0 o2;clear o2;have u1:=mk0 (show ((M):Int).toNat ≤ B.length from by omega);replace n4:=eq_true n4)|((with_reducible refine gate_builtin (b:=.append) (xs:=#[.tmp 49,.tmp 54]) rfl ?_);at_builtin;refine Kd.R_append_rows (Kd.int .i64) (w0:=w) w.heap.size rfl (.tmp 49) (.tmp 54) 23 3 (.int .i64 0) 8 rfl Try.underlying23 info3 rfl (by decide) (by omega) D1 a6 U _ _ _ (fun k_=>some k_ ≠ (.slice b5 B.length a9:Value).ownBlock) (fun _=>False) rfl rfl ?aO ?aR (fun _ _ h=>h) (fun _ h=>h.elim) ?aF ?aB ?aS ?aL ?_;(case aR=>repeat (first|exact (by repeat (first|(with_reducible exact i5.1)|(with_reducible refine Kd.C_alloc ?_ _)|(with_reducible refine Kd.C_drewN ?_ _)|(with_reducible refine Kd.C_drew ?_)|exact i5.1))|(with_reducible refine Kd.C_alloc ?_ _)|(with_reducible refine Kd.C_drewN ?_ _)|(with_reducible refine Kd.C_drew ?_)));(case aB=>exact (by repeat (first|(with_reducible first|exact I.1|apply below_alloc|apply pw_below_drewN|apply below_drew1)|exact I.1)));(case aF=>exact (fun k_ hk=>Kd.fresh' (Kd.R_lt (by (with_reducible repeat (first|apply Kd.R_alloc|apply Kd.R_drewN|apply Kd.R_drew));exact E.1)) k_ hk));(case aO=>exact (by (with_reducible repeat (first|apply Kd.R_alloc|apply Kd.R_drewN|apply Kd.R_drew));exact Kd.R_mono q1.1 (fun _ hk=>hk.2)));(case aS=>exact (below_size (by repeat (first|(with_reducible first|exact I.1|apply below_alloc|apply pw_below_drewN|apply below_drew1)|exact I.1))));(case aL=>have:=y8.1;omega);intro D2 B7 ho hb hg hat;rw [← y9.1] at ho;have q7:=mk0 (ho);replace d1:=mk0 (Kd.S_after (ok:=(fun k_=>some k_ ≠ (.slice b5 B.length a9:Value).ownBlock)) (by (with_reducible repeat (first|apply Kd.S_alloc|apply Kd.S_drewN|apply Kd.S_drew));exact d1.1) hg hat);replace I:=mk0 (hb);replace b9:=mk0 ((show Kd.C (Kd.int .i64) B7 n1 a2.length a2 from by rw [d5.1,l7.1];exact Kd.C_drop (m:=((M):Int).toNat) (c:=a9) ((Kd.R_reads' (Kd.R_after (ok:=(fun _=>True)) (by (with_reducible repeat (first|apply Kd.R_alloc|apply Kd.R_drewN|apply Kd.R_drew));exact Kd.R_mono E.1 (fun _ hk=>⟨trivial,hk.2⟩)) hg hat)).2.2) l8.1 ((Kd.R_reads' (Kd.R_after (ok:=(fun _=>True)) (by (with_reducible repeat (first|apply Kd.R_alloc|apply Kd.R_drewN|apply Kd.R_drew));exact Kd.R_mono E.1 (fun _ hk=>⟨trivial,hk.2⟩)) hg hat)).2.1)));replace i5:=mk0 ((show Kd.C (Kd.int .i64) B7 b5 U.length U from by rw [i3.1];exact Kd.C_take (m:=((M):Int).toNat) ((Kd.R_reads' (Kd.R_after (ok:=(fun _=>True)) (by (with_reducible repeat (first|apply Kd.R_alloc|apply Kd.R_drewN|apply Kd.R_drew));exact Kd.R_mono E.1 (fun _ hk=>⟨trivial,hk.2⟩)) hg hat)).2.2) u1.1));replace E:=mk0 (Kd.R_after (ok:=(fun _=>True)) (by (with_reducible repeat (first|apply Kd.R_alloc|apply Kd.R_drewN|apply Kd.R_drew));exact Kd.R_mono E.1 (fun _ hk=>⟨trivial,hk.2⟩)) hg hat);clear q1;clear ho hb hg hat)|((with_reducible refine gate_builtin (b:=.append) (xs:=#[.tmp 55,.tmp 57]) rfl ?_);at_builtin;refine Kd.R_append (Kd.int .i64) (w0:=w) w.heap.size rfl (.tmp 55) (.tmp 57) 23 3 (.int .i64 0) 8 rfl Try.underlying23 info3 rfl (by decide) (by omega) D2 Y D [.int .i64 D] (fun k_=>some k_ ≠ (.slice b5 B.length a9:Value).ownBlock) (fun _=>False) rfl rfl ?aP (fun _ hk=>hk.elim) ?aF ?aO ?aB ?aS ?aL ?_;(case aP=>exact rfl);(case aB=>exact (by repeat (first|(with_reducible first|exact I.1|apply below_alloc|apply pw_below_drewN|apply below_drew1)|exact I.1)));(case aF=>exact (fun k_ hk=>Kd.fresh' (Kd.R_lt (by (with_reducible repeat (first|apply Kd.R_alloc|apply Kd.R_drewN|apply Kd.R_drew));exact E.1)) k_ hk));(case aO=>exact (by (with_reducible repeat (first|apply Kd.R_alloc|apply Kd.R_drewN|apply Kd.R_drew));exact q7.1));(case aS=>exact (below_size (by repeat (first|(with_reducible first|exact I.1|apply below_alloc|apply pw_below_drewN|apply below_drew1)|exact I.1))));(case aL=>have:=z0.1;omega);intro I0 B8 ho hb hg hat;rw [← z1.1] at ho;have z3:=mk0 (ho);replace d1:=mk0 (Kd.S_after (ok:=(fun k_=>some k_ ≠ (.slice b5 B.length a9:Value).ownBlock)) (by (with_reducible repeat (first|apply Kd.S_alloc|apply Kd.S_drewN|apply Kd.S_drew));exact d1.1) hg hat);replace I:=mk0 (hb);replace b9:=mk0 ((show Kd.C (Kd.int .i64) B8 n1 a2.length a2 from by rw [d5.1,l7.1];exact Kd.C_drop (m:=((M):Int).toNat) (c:=a9) ((Kd.R_reads' (Kd.R_after (ok:=(fun _=>True)) (by (with_reducible repeat (first|apply Kd.R_alloc|apply Kd.R_drewN|apply Kd.R_drew));exact E.1) hg hat)).2.2) l8.1 ((Kd.R_reads' (Kd.R_after (ok:=(fun _=>True)) (by (with_reducible repeat (first|apply Kd.R_alloc|apply Kd.R_drewN|apply Kd.R_drew));exact E.1) hg hat)).2.1)));replace i5:=mk0 ((show Kd.C (Kd.int .i64) B8 b5 U.length U from by rw [i3.1];exact Kd.C_take (m:=((M):Int).toNat) ((Kd.R_reads' (Kd.R_after (ok:=(fun _=>True)) (by (with_reducible repeat (first|apply Kd.R_alloc|apply Kd.R_drewN|apply Kd.R_drew));exact E.1) hg hat)).2.2) u1.1));replace E:=mk0 (Kd.R_after (ok:=(fun _=>True)) (by (with_reducible repeat (first|apply Kd.R_alloc|apply Kd.R_drewN|apply Kd.R_drew));exact E.1) hg hat);clear q7;clear ho hb hg hat)));go_roundg kj8;(case measure=>have:=d4.1;have:=i0.1;omega);case rel=>exact ⟨(h2),(t2),(wrap64 (D + 1)),(by first|rfl|(simp;done)|(simp [*];done)),H',⟨by have:=d4.1;have:=i0.1;omega⟩,⟨by (with_reducible repeat (first|apply Kd.S_alloc|apply Kd.S_drewN|apply Kd.S_drew));exact Kd.S_mono d1.1 (fun _ hk=>hk.2)⟩,⟨by (with_reducible repeat (first|apply Kd.R_alloc|apply Kd.R_drewN|apply Kd.R_drew));exact Kd.R_mono z3.1 (fun _ hk=>trivial)⟩,⟨by repeat (first|(with_reducible first|exact I.1|apply below_alloc|apply pw_below_drewN|apply below_drew1)|exact I.1)⟩⟩);· rw [if_neg c27] at H;exact absurd H (by simp));· rw [if_neg c26] at H;exact absurd H (by simp));· rw [if_neg c23] at H;exact absurd H (by simp));· rw [if_neg c22] at H;exact absurd H (by simp));· rw [if_neg c21] at H;exact absurd H (by simp));· rw [if_neg c20] at H;exact absurd H (by simp));· rw [if_neg c17] at H;exact absurd H (by simp));· rw [if_neg c16] at H;exact absurd H (by simp)
       ·
        (replace n0:=Bool.eq_false_iff.mpr n0;subst n0;have H1:(if (bt G D)=42 then (if (B.length:Int) < 1 then (some (([]:List (S98)),false)) else (if 0 ≤ D then (if D < (G.size:Int) then ((some (([]:List Int):List Int)).bind fun c9=>(if 0 ≤ (wrap64 ((B.length:Int) - 1)) then (if (wrap64 ((B.length:Int) - 1)) ≤ (B.length:Int) then ((some (B.drop ((wrap64 ((B.length:Int) - 1)):Int).toNat:List Int)).bind fun a3=>(if c9.length + a3.length < 17592186044416 then (if L.length < 4398046511104 then ((some (([]:List Int):List Int)).bind fun a7=>((some (B.take ((wrap64 ((B.length:Int) - 1)):Int).toNat:List Int)).bind fun V=>(if a7.length + V.length < 17592186044416 then ((some (a7 ++ V:List Int)).bind fun Z=>(if Z.length < 17592186044416 then (bellpullref05_Parse.l0 kj8 G (L ++ [(⟨bt G D,(c9 ++ a3)⟩:S98)]) (Z ++ [D]) (wrap64 (D + 1))) else (none))) else (none)))) else (none)) else (none))) else (none)) else (none))) else (none)) else (none))) else (if (bt G D)=46 then (bellpullref05_Parse.j2 kj8 G L B D ((bt G D) == 46)) else (bellpullref05_Parse.j2 kj8 G L B D ((bt G D) == 43))))=some (r1,r2):=by rw [if_neg (show ¬ (false=true) by decide)] at H;exact H);clear H;have H:=H1;clear H1;by_cases c41:(bt G D)=42;· rw [if_pos c41] at H;have c41b0:((bt G D) == 42)=true:=beq_iff_eq.mpr c41;have c41b1:((bt G D) != 42)=false:=bne_eq_false_iff_eq.mpr c41;clear c41;by_cases c42:(B.length:Int) < 1;(· rw [if_pos c42] at H;have c42b0:decide ((B.length:Int) < 1)=true:=decide_eq_true c42;have c42b1:decide (B.length < 1)=true:=decide_eq_true (by omega);clear c42;simp only [Option.some.injEq,Prod.mk.injEq] at H;obtain ⟨rfl,rfl⟩:=H;obtain ⟨I1,I2,D3⟩:=Kd.R_slice E.1;subst D3;go_wp2;go_ret2;exact ⟨_,by first|rfl|(simp [errW_none,errW_some] <;> rfl)|(simp [*,errW_none,errW_some] <;> rfl),by first|exact Kd.S_nil _ _ _ _ _|exact Kd.N_nil _ _ _ _ _|exact Kd.V_nil _ _ _ _ _|exact Kd.Q_nil _ _ _ _ _|exact Kd.R_nil _ _ _ _ _,by repeat (first|(with_reducible first|exact I.1|apply below_alloc|apply pw_below_drewN|apply below_drew1)|exact I.1)⟩);· rw [if_neg c42] at H;have c42b0:decide ((B.length:Int) < 1)=false:=decide_eq_false c42;have c42b1:decide (B.length < 1)=false:=decide_eq_false (by omega);clear c42;by_cases c44:0 ≤ D;(· rw [if_pos c44] at H;have c44b0:decide (0 ≤ D)=true:=decide_eq_true c44;clear c44;by_cases c45:D < (G.size:Int);(· rw [if_pos c45] at H;have c45b0:decide (D < (G.size:Int))=true:=decide_eq_true c45;clear c45;obtain ⟨c9,f4⟩:∃ y_:List Int,y_=(([]:List Int)):=⟨_,rfl⟩;(replace H:(if 0 ≤ (wrap64 ((B.length:Int) - 1)) then (if (wrap64 ((B.length:Int) - 1)) ≤ (B.length:Int) then ((some (B.drop ((wrap64 ((B.length:Int) - 1)):Int).toNat:List Int)).bind fun a3=>(if c9.length + a3.length < 17592186044416 then (if L.length < 4398046511104 then ((some (([]:List Int):List Int)).bind fun a7=>((some (B.take ((wrap64 ((B.length:Int) - 1)):Int).toNat:List Int)).bind fun V=>(if a7.length + V.length < 17592186044416 then ((some (a7 ++ V:List Int)).bind fun Z=>(if Z.length < 17592186044416 then (bellpullref05_Parse.l0 kj8 G (L ++ [(⟨bt G D,(c9 ++ a3)⟩:S98)]) (Z ++ [D]) (wrap64 (D + 1))) else (none))) else (none)))) else (none)) else (none))) else (none)) else (none))=some (r1,r2):=by first|(rw [f4];with_reducible exact H)|(have F:=(Option.bind_some _ _).symm.trans H;rw [f4];with_reducible exact F)|(have F:=(Option.bind_some _ _).symm.trans H;with_reducible exact F)|with_reducible exact H|(rw [f4];exact H)|exact H);have q9:=mk0 f4;clear f4;obtain ⟨O,l9⟩:∃ j_:Int,(wrap64 ((B.length:Int) - 1))=j_:=⟨_,rfl⟩;(replace H:(if 0 ≤ (O) then (if (O) ≤ (B.length:Int) then ((some (B.drop ((O):Int).toNat:List Int)).bind fun a3=>(if c9.length + a3.length < 17592186044416 then (if L.length < 4398046511104 then ((some (([]:List Int):List Int)).bind fun a7=>((some (B.take ((O):Int).toNat:List Int)).bind fun V=>(if a7.length + V.length < 17592186044416 then ((some (a7 ++ V:List Int)).bind fun Z=>(if Z.length < 17592186044416 then (bellpullref05_Parse.l0 kj8 G (L ++ [(⟨bt G D,(c9 ++ a3)⟩:S98)]) (Z ++ [D]) (wrap64 (D + 1))) else (none))) else (none)))) else (none)) else (none))) else (none)) else (none))=some (r1,r2):=by first|(rw [l9] at H;exact H)|(simp only [l9] at H ⊢;exact H));have hji47w:(IntKind.i64.wrap ((B.length:Int) - 1))=O:=(i64_w _).trans l9;by_cases c48:0 ≤ (O);(· rw [if_pos c48] at H;have c48b0:=eq_true c48;have c48b1:decide (0 ≤ (O))=true:=decide_eq_true c48;clear c48;by_cases c49:(O) ≤ (B.length:Int);(· rw [if_pos c49] at H;have c49b0:=eq_true c49;have c49b1:decide ((O) ≤ (B.length:Int))=true:=decide_eq_true c49;clear c49;obtain ⟨a3,f5⟩:∃ y_:List Int,y_=(B.drop ((O):Int).toNat):=⟨_,rfl⟩;(replace H:(if c9.length + a3.length < 17592186044416 then (if L.length < 4398046511104 then ((some (([]:List Int):List Int)).bind fun a7=>((some (B.take ((O):Int).toNat:List Int)).bind fun V=>(if a7.length + V.length < 17592186044416 then ((some (a7 ++ V:List Int)).bind fun Z=>(if Z.length < 17592186044416 then (bellpullref05_Parse.l0 kj8 G (L ++ [(⟨bt G D,(c9 ++ a3)⟩:S98)]) (Z ++ [D]) (wrap64 (D + 1))) else (none))) else (none)))) else (none)) else (none))=some (r1,r2):=by first|(rw [f5];with_reducible exact H)|(have F:=(Option.bind_some _ _).symm.trans H;rw [f5];with_reducible exact F)|(have F:=(Option.bind_some _ _).symm.trans H;with_reducible exact F)|with_reducible exact H|(rw [f5];exact H)|exact H);have d6:=mk0 f5;clear f5;by_cases c50:c9.length + a3.length < 17592186044416;(· rw [if_pos c50] at H;have z4:=mk0 c50;clear c50;obtain ⟨h4,f6⟩:∃ y_:List Int,y_=(c9 ++ a3):=⟨_,rfl⟩;(replace H:(if L.length < 4398046511104 then ((some (([]:List Int):List Int)).bind fun a7=>((some (B.take ((O):Int).toNat:List Int)).bind fun V=>(if a7.length + V.length < 17592186044416 then ((some (a7 ++ V:List Int)).bind fun Z=>(if Z.length < 17592186044416 then (bellpullref05_Parse.l0 kj8 G (L ++ [(⟨bt G D,h4⟩:S98)]) (Z ++ [D]) (wrap64 (D + 1))) else (none))) else (none)))) else (none))=some (r1,r2):=by first|(rw [f6];with_reducible exact H)|(have F:=(Option.bind_some _ _).symm.trans H;rw [f6];with_reducible exact F)|(have F:=(Option.bind_some _ _).symm.trans H;with_reducible exact F)|with_reducible exact H|(rw [f6];exact H)|exact H);have z5:=mk0 f6;clear f6;by_cases c51:L.length < 4398046511104;(· rw [if_pos c51] at H;have z6:=mk0 c51;clear c51;obtain ⟨h5,f7⟩:∃ y_:List (S98),y_=(L ++ [(⟨bt G D,h4⟩:S98)]):=⟨_,rfl⟩;(replace H:((some (([]:List Int):List Int)).bind fun a7=>((some (B.take ((O):Int).toNat:List Int)).bind fun V=>(if a7.length + V.length < 17592186044416 then ((some (a7 ++ V:List Int)).bind fun Z=>(if Z.length < 17592186044416 then (bellpullref05_Parse.l0 kj8 G h5 (Z ++ [D]) (wrap64 (D + 1))) else (none))) else (none))))=some (r1,r2):=by first|(rw [f7];with_reducible exact H)|(have F:=(Option.bind_some _ _).symm.trans H;rw [f7];with_reducible exact F)|(have F:=(Option.bind_some _ _).symm.trans H;with_reducible exact F)|with_reducible exact H|(rw [f7];exact H)|exact H);have z7:=mk0 f7;clear f7;obtain ⟨a7,f8⟩:∃ y_:List Int,y_=(([]:List Int)):=⟨_,rfl⟩;(replace H:((some (B.take ((O):Int).toNat:List Int)).bind fun V=>(if a7.length + V.length < 17592186044416 then ((some (a7 ++ V:List Int)).bind fun Z=>(if Z.length < 17592186044416 then (bellpullref05_Parse.l0 kj8 G h5 (Z ++ [D]) (wrap64 (D + 1))) else (none))) else (none)))=some (r1,r2):=by first|(rw [f8];with_reducible exact H)|(have F:=(Option.bind_some _ _).symm.trans H;rw [f8];with_reducible exact F)|(have F:=(Option.bind_some _ _).symm.trans H;with_reducible exact F)|with_reducible exact H|(rw [f8];exact H)|exact H);have r0:=mk0 f8;clear f8;have c52b0:=eq_true (of_decide_eq_true (by first|(with_reducible assumption)|assumption):0 ≤ (O));have c53b0:=eq_true (of_decide_eq_true (by first|(with_reducible assumption)|assumption):(O) ≤ (B.length:Int));obtain ⟨V,f9⟩:∃ y_:List Int,y_=(B.take ((O):Int).toNat):=⟨_,rfl⟩;(replace H:(if a7.length + V.length < 17592186044416 then ((some (a7 ++ V:List Int)).bind fun Z=>(if Z.length < 17592186044416 then (bellpullref05_Parse.l0 kj8 G h5 (Z ++ [D]) (wrap64 (D + 1))) else (none))) else (none))=some (r1,r2):=by first|(rw [f9];with_reducible exact H)|(have F:=(Option.bind_some _ _).symm.trans H;rw [f9];with_reducible exact F)|(have F:=(Option.bind_some _ _).symm.trans H;with_reducible exact F)|with_reducible exact H|(rw [f9];exact H)|exact H);have i6:=mk0 f9;clear f9;by_cases c54:a7.length + V.length < 17592186044416;(· rw [if_pos c54] at H;have z8:=mk0 c54;clear c54;obtain ⟨Z,g0⟩:∃ y_:List Int,y_=(a7 ++ V):=⟨_,rfl⟩;(replace H:(if Z.length < 17592186044416 then (bellpullref05_Parse.l0 kj8 G h5 (Z ++ [D]) (wrap64 (D + 1))) else (none))=some (r1,r2):=by first|(rw [g0];with_reducible exact H)|(have F:=(Option.bind_some _ _).symm.trans H;rw [g0];with_reducible exact F)|(have F:=(Option.bind_some _ _).symm.trans H;with_reducible exact F)|with_reducible exact H|(rw [g0];exact H)|exact H);have z9:=mk0 g0;clear g0;by_cases c55:Z.length < 17592186044416;(· rw [if_pos c55] at H;have A0:=mk0 c55;clear c55;obtain ⟨u2,g1⟩:∃ y_:List Int,y_=(Z ++ [D]):=⟨_,rfl⟩;(replace H:(bellpullref05_Parse.l0 kj8 G h5 u2 (wrap64 (D + 1)))=some (r1,r2):=by first|(rw [g1];with_reducible exact H)|(have F:=(Option.bind_some _ _).symm.trans H;rw [g1];with_reducible exact F)|(have F:=(Option.bind_some _ _).symm.trans H;with_reducible exact F)|with_reducible exact H|(rw [g1];exact H)|exact H);(have A1:=mk0 g1;clear g1;have H':=mk0 H;clear H;obtain ⟨b7,b0,D4⟩:=Kd.R_slice E.1;subst D4;try go_wp2);replace J:=mk0 (Kd.S_drew J.1);replace E:=rdr E;replace I:=hdr I;have r3:0 ≤ (D:Int):=of_decide_eq_true (by first|(with_reducible assumption)|assumption);have r4:D < (G.size:Int):=of_decide_eq_true (by first|(with_reducible assumption)|assumption);have D5:=bt_at G D;replace r3:=eq_true r3;replace r4:=eq_true r4;have n5:((O):Int) ≤ ((B.length:Int):Int):=of_decide_eq_true (by first|(with_reducible assumption)|assumption);obtain ⟨I3,r5,_,r6,_⟩:=info_parts info3;have h6:B.length ≤ b0:=(Kd.R_reads' E.1).2.1;have u3:Kd.C (Kd.int .i64) _ b7 B.length B:=(Kd.R_reads' E.1).2.2;have u6:(0:Int) ≤ ((O):Int):=of_decide_eq_true (by first|(with_reducible assumption)|assumption);have u7:=cut_from (P:=Try.prog) 23 3 .i64 Try.underlying23 r5 1 r6 b7 B.length b0 (O) u6 n5;have j6:=Kd.C_drop (m:=((O):Int).toNat) (c:=b0) u3 (by omega) h6;obtain ⟨n6,m0⟩:∃ AA,AA=(if b0=((O):Int).toNat then b7 else (b7:Option Addr).map (·.add (((O):Int).toNat * 1))):=⟨_,rfl⟩;obtain ⟨B9,o3⟩:∃ cc,cc=b0 - ((O):Int).toNat:=⟨_,rfl⟩;have m1:a3.length=B.length - ((O):Int).toNat:=(by rw [d6.1,l0_] <;> omega);rw [show (B).drop ((O):Int).toNat=a3 from d6.1.symm] at j6;replace j6:Kd.C (Kd.int .i64) _ n6 a3.length a3:=(by rw [m0];exact j6);rw [← m1,← m0,← o3] at u7;have c0:=mk0 j6;have G1:=mk0 (show a3.length ≤ B9 from by rw [m1,o3];exact Nat.sub_le_sub_right h6 _);clear j6 u3 h6 r5 r6 o3;have I4:=mk0 m1;have m2:=mk0 m0;clear m1 m0;have m3:=mk0 (show ((O):Int).toNat ≤ B.length from by omega);replace n5:=eq_true n5;refine start_ (n:=15) (S:=fun w'=>True) (ds:=[]) #[n_,n_,n_,n_,n_,n_,n_,n_,n_,n_,n_,n_,n_,n_,n_] (by kernel_rfl) rfl rfl trivial (fun a5=>?_);refine with_tabW bellpullref05_Parse.tab20 bellpullref05_Parse.bits20 (fun T n2=>?_);generalize wc.drew=L5 at J E I c0 a5 ⊢;refine pure_ (i:=0) (N:=some 35) (v:=?_) (a':=?_) #[y_,n_,n_,n_,n_,n_,n_,n_,n_,n_,n_,n_,n_,n_,n_] rfl rfl (any_of T.1 (by kernel_rfl)) (fun _ _ _ h=>h) (Or.inl ⟨by rfl,?_⟩) ?_ ?_;rotate_left;(· intro w';go_simp;with_reducible rfl);rotate_left;(· simp only [Act.put,s0_,s1_,s2_,i64_w,i32_w];rfl);refine pure_ (i:=1) (N:=some 36) (v:=?_) (a':=?_) #[y_,y_,n_,n_,n_,n_,n_,n_,n_,n_,n_,n_,n_,n_,n_] rfl rfl (any_of T.1 (by kernel_rfl)) (fun _ _ _ h=>h) (Or.inl ⟨by rfl,?_⟩) ?_ ?_;rotate_left;(· intro w';go_simp;with_reducible rfl);rotate_left;(· simp only [Act.put,s0_,s1_,s2_,i64_w,i32_w];rfl);refine pure_ (i:=2) (N:=some 37) (v:=?_) (a':=?_) #[y_,y_,y_,n_,n_,n_,n_,n_,n_,n_,n_,n_,n_,n_,n_] rfl rfl (any_of T.1 (by kernel_rfl)) (fun _ _ _ h=>h) (Or.inl ⟨by rfl,?_⟩) ?_ ?_;rotate_left;(· intro w';go_simp;with_reducible rfl);rotate_left;(· simp only [Act.put,s0_,s1_,s2_,i64_w,i32_w];rfl);refine pure_ (i:=5) (N:=some 40) (v:=?_) (a':=?_) #[y_,y_,y_,n_,n_,y_,n_,n_,n_,n_,n_,n_,n_,n_,n_] rfl rfl (any_of T.1 (by kernel_rfl)) (fun _ _ _ h=>h) (Or.inl ⟨by rfl,?_⟩) ?_ ?_;rotate_left;(· intro w';go_simp;with_reducible rfl);rotate_left;(· simp only [Act.put,s0_,s1_,s2_,i64_w,i32_w];rfl);refine pure_ (i:=6) (N:=some 41) (v:=?_) (a':=?_) #[y_,y_,y_,n_,n_,y_,y_,n_,n_,n_,n_,n_,n_,n_,n_] rfl rfl (any_of T.1 (by kernel_rfl)) (fun _ _ _ h=>h) (Or.inl ⟨by rfl,?_⟩) ?_ ?_;rotate_left;(· intro w';go_simp;with_reducible rfl);rotate_left;(· simp only [Act.put,s0_,s1_,s2_,i64_w,i32_w];rfl);refine pure_ (i:=7) (N:=some 42) (v:=?_) (a':=?_) #[y_,y_,y_,n_,n_,y_,y_,y_,n_,n_,n_,n_,n_,n_,n_] rfl rfl (any_of T.1 (by kernel_rfl)) (fun _ _ _ h=>h) (Or.inl ⟨by rfl,?_⟩) ?_ ?_;rotate_left;(· intro w';go_simp;with_reducible rfl);rotate_left;(· simp only [Act.put,s0_,s1_,s2_,i64_w,i32_w];rfl);refine pure_ (i:=8) (N:=some 43) (v:=?_) (a':=?_) #[y_,y_,y_,n_,n_,y_,y_,y_,y_,n_,n_,n_,n_,n_,n_] rfl rfl (any_of T.1 (by kernel_rfl)) (fun _ _ _ h=>h) (Or.inl ⟨by rfl,?_⟩) ?_ ?_;rotate_left;(· intro w';go_simp;with_reducible rfl);rotate_left;(· simp only [Act.put,s0_,s1_,s2_,i64_w,i32_w];rfl);refine pure_ (i:=9) (N:=some 44) (v:=?_) (a':=?_) #[y_,y_,y_,n_,n_,y_,y_,y_,y_,y_,n_,n_,n_,n_,n_] rfl rfl (any_of T.1 (by kernel_rfl)) (fun _ _ _ h=>h) (Or.inl ⟨by rfl,?_⟩) ?_ ?_;rotate_left;(· intro w';go_simp;with_reducible rfl);rotate_left;(· simp only [Act.put,s0_,s1_,s2_,i64_w,i32_w];rfl);refine take_ (i:=3) (N:=some 38) (v:=?_) (a':=?_) #[y_,y_,y_,y_,n_,y_,y_,y_,y_,y_,n_,n_,n_,n_,n_] rfl rfl (take_ofW T.1 n2.1 (by kernel_rfl)) (fun _ _ _ h=>h) (Or.inl ⟨by rfl,?_⟩) a5 ?_ ?_;rotate_left;(· intro w' _;go_simp;with_reducible rfl);rotate_left;(· simp only [Act.put,s0_,s1_,s2_,i64_w,i32_w];rfl);refine one_ (i:=4) (N:=some 39) #[y_,y_,y_,y_,y_,y_,y_,y_,y_,y_,n_,n_,n_,n_,n_] rfl rfl (one_of T.1 (by kernel_rfl)) (by decide) (fun K hK=>?_);refine Kd.R_lit_step (Kd.int .i64) _ 3 ?hg (N:=39) ?hd (xs:=([]:List Int)) (inner:=[]) (ok:=fun _=>True) (okp:=fun _=>True) ?hr ?hp (fun _ hk=>hk) trivial (Below.refl _ _) (Nat.le_refl _) (by simp) ?_;(case hd=>rfl);(case hg=>rfl);(case hr=>first|(go_simp;done)|(go_simp;rfl));(case hp=>exact (Reps.none _ _));intro D6 L6 e0 hb hg_ b4;clear hg_ b4;(first|rw [← q9.1] at e0|(simp only [Int.reduceToNat] at e0;rw [← q9.1] at e0));have r7:=mk0 (Kd.R_lower (Kd.R_new' e0 (Kd.R_lt E.1)) (below_size I.1));replace J:=mk0 (Kd.S_elder' J.1 (Kd.R_base e0) hb);replace E:=mk0 (Kd.R_elder' E.1 (Kd.R_base e0) hb);replace c0:=mk0 (Kd.C_below (by repeat (first|(with_reducible exact c0.1)|(with_reducible refine Kd.C_alloc ?_ _)|(with_reducible refine Kd.C_drewN ?_ _)|(with_reducible refine Kd.C_drew ?_)|exact c0.1)) hb);replace I:=bst I hb;clear hb e0;refine hK.out _ _ trivial (fun a5=>?_);clear hK K;refine norm_ (a':=?_) ?_ ?_;rotate_left;(· show Act.put _ (some 39) _=_;simp only [Act.put,s0_,s1_,s2_,i64_w,i32_w];rfl);refine one_ (i:=10) (N:=some 45) #[y_,y_,y_,y_,y_,y_,y_,y_,y_,y_,y_,n_,n_,n_,n_] rfl rfl (one_of T.1 (by kernel_rfl)) (by decide) (fun K hK=>?_);refine Kd.R_append_rows_step (Kd.int .i64) (w0:=w) w.heap.size (by rfl) (.tmp 39) (.tmp 44) 23 3 (.int .i64 0) 8 rfl Try.underlying23 info3 rfl (by decide) (by omega) D6 c9 a3 _ _ _ (fun k_=>some k_ ≠ (.slice b7 B.length b0:Value).ownBlock) (fun _=>False) rfl rfl ?aO ?aR (fun _ _ h=>h) (fun _ h=>h.elim) ?aF ?aB ?aS ?aL ?_;(case aR=>repeat (first|exact (by repeat (first|(with_reducible exact c0.1)|(with_reducible refine Kd.C_alloc ?_ _)|(with_reducible refine Kd.C_drewN ?_ _)|(with_reducible refine Kd.C_drew ?_)|exact c0.1))|(with_reducible refine Kd.C_alloc ?_ _)|(with_reducible refine Kd.C_drewN ?_ _)|(with_reducible refine Kd.C_drew ?_)));(case aB=>exact I.1);(case aF=>exact (fun k_ hk=>Kd.fresh' (Kd.R_lt E.1) k_ hk));(case aO=>exact (by (with_reducible repeat (first|apply Kd.R_alloc|apply Kd.R_drewN|apply Kd.R_drew));exact Kd.R_mono r7.1 (fun _ hk=>hk.2)));(case aS=>exact (below_size I.1));(case aL=>have:=z4.1;omega);intro I5 F2 ho hb hg hat;rw [← z5.1] at ho;have i7:=mk0 (ho);replace J:=mk0 (Kd.S_after (ok:=(fun k_=>some k_ ≠ (.slice b7 B.length b0:Value).ownBlock)) J.1 hg hat);replace I:=mk0 (hb);replace c0:=mk0 ((show Kd.C (Kd.int .i64) F2 n6 a3.length a3 from by rw [d6.1,m2.1];exact Kd.C_drop (m:=((O):Int).toNat) (c:=b0) ((Kd.R_reads' (Kd.R_after (ok:=(fun _=>True)) E.1 hg hat)).2.2) m3.1 ((Kd.R_reads' (Kd.R_after (ok:=(fun _=>True)) E.1 hg hat)).2.1)));replace E:=mk0 (Kd.R_after (ok:=(fun _=>True)) E.1 hg hat);clear r7;clear ho hb hg hat;obtain ⟨u9,v0,v1⟩:=Kd.R_slice i7.1;(first|subst v1|(injection v1 with f1_ f2_ f3_;have f4_:=f1_.symm;have n3:=f3_.symm;clear f1_ f2_ f3_;subst f4_;subst n3));refine hK.out _ _ trivial (fun a5=>?_);clear hK K;refine norm_ (a':=?_) ?_ ?_;rotate_left;(· show Act.put _ (some 45) _=_;simp only [Act.put,s0_,s1_,s2_,i64_w,i32_w];rfl);refine pure_ (i:=11) (N:=some 46) (v:=?_) (a':=?_) #[y_,y_,y_,y_,y_,y_,y_,y_,y_,y_,y_,y_,n_,n_,n_] rfl rfl (any_of T.1 (by kernel_rfl)) (fun _ _ _ h=>h) (Or.inl ⟨by rfl,?_⟩) ?_ ?_;rotate_left;(· intro w';go_simp;with_reducible rfl);rotate_left;(· simp only [Act.put,s0_,s1_,s2_,i64_w,i32_w];rfl);refine one_ (i:=12) (N:=some 47) #[y_,y_,y_,y_,y_,y_,y_,y_,y_,y_,y_,y_,y_,n_,n_] rfl rfl (one_of T.1 (by kernel_rfl)) (by decide) (fun K hK=>?_);refine value_ (w1:=?_) (v:=?_) (by rfl) rfl ?_ ?_;rotate_left 2;(· go_simp;constructor;(· rfl);· rfl);refine hK.out _ _ trivial (fun a5=>?_);clear hK K;refine norm_ (a':=?_) ?_ ?_;rotate_left;(· show Act.put _ (some 47) _=_;simp only [Act.put,s0_,s1_,s2_,i64_w,i32_w];rfl);refine one_ (i:=13) (N:=some 48) #[y_,y_,y_,y_,y_,y_,y_,y_,y_,y_,y_,y_,y_,y_,n_] rfl rfl (one_of T.1 (by kernel_rfl)) (by decide) (fun K hK=>?_);refine Kd.S_append_step k98 (w0:=w) w.heap.size (by rfl) (.tmp 35) (.tmp 47) 39 98 (.agg #[(.int .u8 0),(.slice none 0 0)]) 32 rfl Try.underlying39 info98 rfl (by decide) (by omega) u4 L (⟨bt G D,h4⟩:S98) [.int .u8 (bt G D),.slice u9 h4.length v0] (fun k_=>some k_ ≠ (.slice b7 B.length b0:Value).ownBlock) (fun k_=>some k_=(.slice u9 h4.length v0:Value).ownBlock) rfl rfl ?aP (fun k_ hk_=>((Kd.R_mono (ok':=fun k_=>((fun k_=>some k_ ≠ (.slice b7 B.length b0:Value).ownBlock)) k_∧some k_ ≠ (u4:Value).ownBlock) (Kd.R_apart' (i7.1) (Kd.S_typed J.1) (by decide)) (fun k_ hk=>⟨hk.1,hk.2⟩))).1 k_ hk_.symm) ?aF ?aO ?aB ?aS ?aL ?_;(case aP=>exact k98_mkM _ _ _ (⟨bt G D,h4⟩:S98) (Kd.R_mono (Kd.R_tight rfl (Kd.R_mono (ok':=fun k_=>((fun k_=>some k_ ≠ (.slice b7 B.length b0:Value).ownBlock)) k_∧some k_ ≠ (u4:Value).ownBlock) (Kd.R_apart' (i7.1) (Kd.S_typed J.1) (by decide)) (fun k_ hk=>⟨hk.1,hk.2⟩))) (fun _ h_=>h_)));(case aB=>exact I.1);(case aF=>exact (fun k_ hk=>Kd.fresh' (Kd.R_lt E.1) k_ hk));(case aO=>exact (by (with_reducible repeat (first|apply Kd.S_alloc|apply Kd.S_drewN|apply Kd.S_drew));exact Kd.S_mono J.1 (fun k_ hk=>⟨hk.1,fun e_=>hk.2 e_⟩)));(case aS=>exact (below_size I.1));(case aL=>have:=z6.1;omega);intro I6 F3 ho hb hg hat;rw [← z7.1] at ho;have d2:=mk0 (ho);replace I:=mk0 (hb);replace c0:=mk0 ((show Kd.C (Kd.int .i64) F3 n6 a3.length a3 from by rw [d6.1,m2.1];exact Kd.C_drop (m:=((O):Int).toNat) (c:=b0) ((Kd.R_reads' (Kd.R_over' E.1 (Kd.S_typed J.1) (by decide) hg)).2.2) m3.1 ((Kd.R_reads' (Kd.R_over' E.1 (Kd.S_typed J.1) (by decide) hg)).2.1)));replace E:=mk0 (Kd.R_over' E.1 (Kd.S_typed J.1) (by decide) hg);clear J;clear i7;clear ho hb hg hat;refine hK.out _ _ trivial (fun a5=>?_);clear hK K;refine norm_ (a':=?_) ?_ ?_;rotate_left;(· show Act.put _ (some 48) _=_;simp only [Act.put,s0_,s1_,s2_,i64_w,i32_w];rfl);refine pure_ (i:=14) (N:=some 4) (v:=?_) (a':=?_) #[y_,y_,y_,y_,y_,y_,y_,y_,y_,y_,y_,y_,y_,y_,y_] rfl rfl (any_of T.1 (by kernel_rfl)) (fun _ _ _ h=>h) (Or.inl ⟨by rfl,?_⟩) ?_ ?_;rotate_left;(· intro w';go_simp;with_reducible rfl);rotate_left;(· simp only [Act.put,s0_,s1_,s2_,i64_w,i32_w];rfl);(refine done_ (done_of T.1 (by kernel_rfl)) ?_;try go_wp2_with (first|((with_reducible refine gate_dst (N:=49) rfl ?_);refine Kd.R_lit (Kd.int .i64) _ 3 ?hg (N:=49) ?hd (xs:=([]:List Int)) (inner:=[]) (ok:=fun _=>True) (okp:=fun _=>True) ?hr ?hp (fun _ hk=>hk) trivial (Below.refl _ _) (Nat.le_refl _) (by simp) ?_;(case hd=>rfl);(case hg=>rfl);(case hr=>first|(go_simp;done)|(go_simp;rfl));(case hp=>exact (Reps.none _ _));intro D7 L7 e1 hb hg_ b4;clear hg_ b4;(first|rw [← r0.1] at e1|(simp only [Int.reduceToNat] at e1;rw [← r0.1] at e1));have r8:=mk0 (Kd.R_lower (Kd.R_new' e1 (Kd.R_lt E.1)) (below_size I.1));replace E:=mk0 (Kd.R_elder' E.1 (Kd.R_base e1) hb);replace d2:=mk0 (Kd.S_elder' d2.1 (Kd.R_base e1) hb);replace c0:=mk0 (Kd.C_below (by repeat (first|(with_reducible exact c0.1)|(with_reducible refine Kd.C_alloc ?_ _)|(with_reducible refine Kd.C_drewN ?_ _)|(with_reducible refine Kd.C_drew ?_)|exact c0.1)) hb);replace I:=bst I hb;clear hb e1;have n7:((O):Int) ≤ ((B.length:Int):Int):=of_decide_eq_true (by first|(with_reducible assumption)|assumption);obtain ⟨I7,r9,_,A2,_⟩:=info_parts info3;have l2:B.length ≤ b0:=(Kd.R_reads' E.1).2.1;have v2:Kd.C (Kd.int .i64) _ b7 B.length B:=(Kd.R_reads' E.1).2.2;have v3:=cut_to (P:=Try.prog) 23 3 .i64 Try.underlying23 r9 b7 B.length b0 (O) (of_decide_eq_true (by first|(with_reducible assumption)|assumption)) n7 l2;have o4:=Kd.C_take (m:=((O):Int).toNat) v2 (by omega);have o5:V.length=((O):Int).toNat:=(by rw [i6.1,l1_];omega);rw [← i6.1] at o4;rw [← o5] at v3;have i8:=mk0 o4;have G2:=mk0 (show V.length ≤ b0 from by omega);clear o4 v2 l2 r9 A2;have I8:=mk0 o5;clear o5;have v7:=mk0 (show ((O):Int).toNat ≤ B.length from by omega);replace n7:=eq_true n7)|((with_reducible refine gate_builtin (b:=.append) (xs:=#[.tmp 49,.tmp 54]) rfl ?_);at_builtin;refine Kd.R_append_rows (Kd.int .i64) (w0:=w) w.heap.size rfl (.tmp 49) (.tmp 54) 23 3 (.int .i64 0) 8 rfl Try.underlying23 info3 rfl (by decide) (by omega) D7 a7 V _ _ _ (fun k_=>some k_ ≠ (.slice b7 B.length b0:Value).ownBlock) (fun _=>False) rfl rfl ?aO ?aR (fun _ _ h=>h) (fun _ h=>h.elim) ?aF ?aB ?aS ?aL ?_;(case aR=>repeat (first|exact (by repeat (first|(with_reducible exact i8.1)|(with_reducible refine Kd.C_alloc ?_ _)|(with_reducible refine Kd.C_drewN ?_ _)|(with_reducible refine Kd.C_drew ?_)|exact i8.1))|(with_reducible refine Kd.C_alloc ?_ _)|(with_reducible refine Kd.C_drewN ?_ _)|(with_reducible refine Kd.C_drew ?_)));(case aB=>exact (by repeat (first|(with_reducible first|exact I.1|apply below_alloc|apply pw_below_drewN|apply below_drew1)|exact I.1)));(case aF=>exact (fun k_ hk=>Kd.fresh' (Kd.R_lt (by (with_reducible repeat (first|apply Kd.R_alloc|apply Kd.R_drewN|apply Kd.R_drew));exact E.1)) k_ hk));(case aO=>exact (by (with_reducible repeat (first|apply Kd.R_alloc|apply Kd.R_drewN|apply Kd.R_drew));exact Kd.R_mono r8.1 (fun _ hk=>hk.2)));(case aS=>exact (below_size (by repeat (first|(with_reducible first|exact I.1|apply below_alloc|apply pw_below_drewN|apply below_drew1)|exact I.1))));(case aL=>have:=z8.1;omega);intro D8 C0 ho hb hg hat;rw [← z9.1] at ho;have s0:=mk0 (ho);replace d2:=mk0 (Kd.S_after (ok:=(fun k_=>some k_ ≠ (.slice b7 B.length b0:Value).ownBlock)) (by (with_reducible repeat (first|apply Kd.S_alloc|apply Kd.S_drewN|apply Kd.S_drew));exact d2.1) hg hat);replace I:=mk0 (hb);replace c0:=mk0 ((show Kd.C (Kd.int .i64) C0 n6 a3.length a3 from by rw [d6.1,m2.1];exact Kd.C_drop (m:=((O):Int).toNat) (c:=b0) ((Kd.R_reads' (Kd.R_after (ok:=(fun _=>True)) (by (with_reducible repeat (first|apply Kd.R_alloc|apply Kd.R_drewN|apply Kd.R_drew));exact Kd.R_mono E.1 (fun _ hk=>⟨trivial,hk.2⟩)) hg hat)).2.2) m3.1 ((Kd.R_reads' (Kd.R_after (ok:=(fun _=>True)) (by (with_reducible repeat (first|apply Kd.R_alloc|apply Kd.R_drewN|apply Kd.R_drew));exact Kd.R_mono E.1 (fun _ hk=>⟨trivial,hk.2⟩)) hg hat)).2.1)));replace i8:=mk0 ((show Kd.C (Kd.int .i64) C0 b7 V.length V from by rw [i6.1];exact Kd.C_take (m:=((O):Int).toNat) ((Kd.R_reads' (Kd.R_after (ok:=(fun _=>True)) (by (with_reducible repeat (first|apply Kd.R_alloc|apply Kd.R_drewN|apply Kd.R_drew));exact Kd.R_mono E.1 (fun _ hk=>⟨trivial,hk.2⟩)) hg hat)).2.2) v7.1));replace E:=mk0 (Kd.R_after (ok:=(fun _=>True)) (by (with_reducible repeat (first|apply Kd.R_alloc|apply Kd.R_drewN|apply Kd.R_drew));exact Kd.R_mono E.1 (fun _ hk=>⟨trivial,hk.2⟩)) hg hat);clear r8;clear ho hb hg hat)|((with_reducible refine gate_builtin (b:=.append) (xs:=#[.tmp 55,.tmp 57]) rfl ?_);at_builtin;refine Kd.R_append (Kd.int .i64) (w0:=w) w.heap.size rfl (.tmp 55) (.tmp 57) 23 3 (.int .i64 0) 8 rfl Try.underlying23 info3 rfl (by decide) (by omega) D8 Z D [.int .i64 D] (fun k_=>some k_ ≠ (.slice b7 B.length b0:Value).ownBlock) (fun _=>False) rfl rfl ?aP (fun _ hk=>hk.elim) ?aF ?aO ?aB ?aS ?aL ?_;(case aP=>exact rfl);(case aB=>exact (by repeat (first|(with_reducible first|exact I.1|apply below_alloc|apply pw_below_drewN|apply below_drew1)|exact I.1)));(case aF=>exact (fun k_ hk=>Kd.fresh' (Kd.R_lt (by (with_reducible repeat (first|apply Kd.R_alloc|apply Kd.R_drewN|apply Kd.R_drew));exact E.1)) k_ hk));(case aO=>exact (by (with_reducible repeat (first|apply Kd.R_alloc|apply Kd.R_drewN|apply Kd.R_drew));exact s0.1));(case aS=>exact (below_size (by repeat (first|(with_reducible first|exact I.1|apply below_alloc|apply pw_below_drewN|apply below_drew1)|exact I.1))));(case aL=>have:=A0.1;omega);intro I9 C1 ho hb hg hat;rw [← A1.1] at ho;have A3:=mk0 (ho);replace d2:=mk0 (Kd.S_after (ok:=(fun k_=>some k_ ≠ (.slice b7 B.length b0:Value).ownBlock)) (by (with_reducible repeat (first|apply Kd.S_alloc|apply Kd.S_drewN|apply Kd.S_drew));exact d2.1) hg hat);replace I:=mk0 (hb);replace c0:=mk0 ((show Kd.C (Kd.int .i64) C1 n6 a3.length a3 from by rw [d6.1,m2.1];exact Kd.C_drop (m:=((O):Int).toNat) (c:=b0) ((Kd.R_reads' (Kd.R_after (ok:=(fun _=>True)) (by (with_reducible repeat (first|apply Kd.R_alloc|apply Kd.R_drewN|apply Kd.R_drew));exact E.1) hg hat)).2.2) m3.1 ((Kd.R_reads' (Kd.R_after (ok:=(fun _=>True)) (by (with_reducible repeat (first|apply Kd.R_alloc|apply Kd.R_drewN|apply Kd.R_drew));exact E.1) hg hat)).2.1)));replace i8:=mk0 ((show Kd.C (Kd.int .i64) C1 b7 V.length V from by rw [i6.1];exact Kd.C_take (m:=((O):Int).toNat) ((Kd.R_reads' (Kd.R_after (ok:=(fun _=>True)) (by (with_reducible repeat (first|apply Kd.R_alloc|apply Kd.R_drewN|apply Kd.R_drew));exact E.1) hg hat)).2.2) v7.1));replace E:=mk0 (Kd.R_after (ok:=(fun _=>True)) (by (with_reducible repeat (first|apply Kd.R_alloc|apply Kd.R_drewN|apply Kd.R_drew));exact E.1) hg hat);clear s0;clear ho hb hg hat)));go_roundg kj8;(case measure=>have:=d4.1;have:=i0.1;omega);case rel=>exact ⟨(h5),(u2),(wrap64 (D + 1)),(by first|rfl|(simp;done)|(simp [*];done)),H',⟨by have:=d4.1;have:=i0.1;omega⟩,⟨by (with_reducible repeat (first|apply Kd.S_alloc|apply Kd.S_drewN|apply Kd.S_drew));exact Kd.S_mono d2.1 (fun _ hk=>hk.2)⟩,⟨by (with_reducible repeat (first|apply Kd.R_alloc|apply Kd.R_drewN|apply Kd.R_drew));exact Kd.R_mono A3.1 (fun _ hk=>trivial)⟩,⟨by repeat (first|(with_reducible first|exact I.1|apply below_alloc|apply pw_below_drewN|apply below_drew1)|exact I.1)⟩⟩);· rw [if_neg c55] at H;exact absurd H (by simp));· rw [if_neg c54] at H;exact absurd H (by simp));· rw [if_neg c51] at H;exact absurd H (by simp));· rw [if_neg c50] at H;exact absurd H (by simp));· rw [if_neg c49] at H;exact absurd H (by simp));· rw [if_neg c48] at H;exact absurd H (by simp));· rw [if_neg c45] at H;exact absurd H (by simp));· rw [if_neg c44] at H;exact absurd H (by simp)
        ·
         rw [if_neg c41] at H;have c41b0:((bt G D) == 42)=false:=beq_eq_false_iff_ne.mpr c41;have c41b1:((bt G D) != 42)=true:=bne_iff_ne.mpr c41;have o6:=mk0 H;clear H;go_upto_if 27 with (fail);go_cut [27] (fun F4 wc=>∃ (kq:Nat) (g2:Bool),F4=.bool g2∧Aside0 (bellpullref05_Parse.j2 kq G L B D g2=some (r1,r2))∧Aside0 (kq ≤ kj8)∧Aside0 (Kd.S k98 98 wc w.heap.size (fun k_=>some k_ ≠ (u5:Value).ownBlock) u4 L)∧Aside0 (Kd.R (Kd.int .i64) 3 wc w.heap.size (fun _=>True) u5 B)∧Aside0 (Below w.heap.size w wc));case first =>have H:=o6.1;clear o6;by_cases c70:(bt G D)=46;(· rw [if_pos c70] at H;have c70b0:((bt G D) == 46)=true:=beq_iff_eq.mpr c70;have c70b1:((bt G D) != 46)=false:=bne_eq_false_iff_eq.mpr c70;clear c70;(first|rw [c70b0]|(simp only [i64_w,i32_w];rw [c70b0])|skip);have H':=mk0 H;clear H;go_wp2;go_meet;case rel=>exact ⟨_,(((bt G D) == 46)),(by first|rfl|(simp;done)|(simp [*];done)),H',⟨by have:=d4.1;have:=i0.1;first|omega|exact Nat.le_refl _⟩,⟨by (with_reducible repeat (first|apply Kd.S_alloc|apply Kd.S_drewN|apply Kd.S_drew));exact J.1⟩,⟨by (with_reducible repeat (first|apply Kd.R_alloc|apply Kd.R_drewN|apply Kd.R_drew));exact E.1⟩,⟨by repeat (first|(with_reducible first|exact I.1|apply below_alloc|apply pw_below_drewN|apply below_drew1)|exact I.1)⟩⟩);· rw [if_neg c70] at H;have c70b0:((bt G D) == 46)=false:=beq_eq_false_iff_ne.mpr c70;have c70b1:((bt G D) != 46)=true:=bne_iff_ne.mpr c70;(first|rw [c70b0]|(simp only [i64_w,i32_w];rw [c70b0])|skip);have H':=mk0 H;clear H;go_wp2;go_meet;case rel=>exact ⟨_,(((bt G D) == 43)),(by first|rfl|(simp;done)|(simp [*];done)),H',⟨by have:=d4.1;have:=i0.1;first|omega|exact Nat.le_refl _⟩,⟨by (with_reducible repeat (first|apply Kd.S_alloc|apply Kd.S_drewN|apply Kd.S_drew));exact J.1⟩,⟨by (with_reducible repeat (first|apply Kd.R_alloc|apply Kd.R_drewN|apply Kd.R_drew));exact E.1⟩,⟨by repeat (first|(with_reducible first|exact I.1|apply below_alloc|apply pw_below_drewN|apply below_drew1)|exact I.1)⟩⟩
         case rest =>
          (clear o6;try clear c1);(try clear c2);(try clear p2);(try clear q3);(try clear c4);(try clear p4);(try clear q4);(try clear hx4);(try clear c5);(try clear q5);(try clear p6);(try clear q6);(try clear c7);(try clear n0);(try clear c16);(try clear c17);(try clear c20);(try clear c21);(try clear c22);(try clear c23);(try clear c26);(try clear c27);(try clear n4);(try clear c41);(try clear c41b0);(try clear c41b1);(try clear c42);(try clear c42b0);(try clear c42b1);(try clear c44);(try clear c44b0);(try clear c45);(try clear c45b0);(try clear r3);(try clear r4);(try clear D5);(try clear c48);(try clear c48b0);(try clear c48b1);(try clear c49);(try clear c49b0);(try clear c49b1);(try clear c50);(try clear c51);(try clear c52);(try clear c52b0);(try clear c53);(try clear c53b0);(try clear c54);(try clear c55);(try clear B9);(try clear n5);(try clear p64);(try clear n7);(try clear c70);(try clear c70b0);(try clear c70b1);(try clear r3);(try clear u6);(try clear n4);(try clear r4);(try clear n5);try clear n7
          obtain ⟨kq,g2,rfl,HA,v8,J,E,I⟩:=hcut;cases kq with
          | zero=>exact absurd HA.1 (by simp [bellpullref05_Parse.j2])
          | succ kj68 =>have H:=HA.1;clear HA;simp only [bellpullref05_Parse.j2] at H;by_cases s1:g2=true;(· (subst s1;have H1:(if (B.length:Int) < 2 then (some (([]:List (S98)),false)) else (if 0 ≤ D then (if D < (G.size:Int) then ((some (([]:List Int):List Int)).bind fun d0=>(if 0 ≤ (wrap64 ((B.length:Int) - 2)) then (if (wrap64 ((B.length:Int) - 2)) ≤ (B.length:Int) then ((some (B.drop ((wrap64 ((B.length:Int) - 2)):Int).toNat:List Int)).bind fun a4=>(if d0.length + a4.length < 17592186044416 then (if L.length < 4398046511104 then ((some (([]:List Int):List Int)).bind fun a8=>((some (B.take ((wrap64 ((B.length:Int) - 2)):Int).toNat:List Int)).bind fun X=>(if a8.length + X.length < 17592186044416 then ((some (a8 ++ X:List Int)).bind fun a1=>(if a1.length < 17592186044416 then (bellpullref05_Parse.l0 kj68 G (L ++ [(⟨bt G D,(d0 ++ a4)⟩:S98)]) (a1 ++ [D]) (wrap64 (D + 1))) else (none))) else (none)))) else (none)) else (none))) else (none)) else (none))) else (none)) else (none)))=some (r1,r2):=by rw [if_pos rfl] at H;exact H);clear H;have H:=H1;clear H1;by_cases c72:(B.length:Int) < 2;(· rw [if_pos c72] at H;have c72b0:decide ((B.length:Int) < 2)=true:=decide_eq_true c72;have c72b1:decide (B.length < 2)=true:=decide_eq_true (by omega);clear c72;simp only [Option.some.injEq,Prod.mk.injEq] at H;obtain ⟨rfl,rfl⟩:=H;obtain ⟨J0,J1,D9⟩:=Kd.R_slice E.1;subst D9;go_wp2;go_ret2;exact ⟨_,by first|rfl|(simp [errW_none,errW_some] <;> rfl)|(simp [*,errW_none,errW_some] <;> rfl),by first|exact Kd.S_nil _ _ _ _ _|exact Kd.N_nil _ _ _ _ _|exact Kd.V_nil _ _ _ _ _|exact Kd.Q_nil _ _ _ _ _|exact Kd.R_nil _ _ _ _ _,by repeat (first|(with_reducible first|exact I.1|apply below_alloc|apply pw_below_drewN|apply below_drew1)|exact I.1)⟩);· rw [if_neg c72] at H;have c72b0:decide ((B.length:Int) < 2)=false:=decide_eq_false c72;have c72b1:decide (B.length < 2)=false:=decide_eq_false (by omega);clear c72;by_cases c74:0 ≤ D;(· rw [if_pos c74] at H;have c74b0:decide (0 ≤ D)=true:=decide_eq_true c74;clear c74;by_cases c75:D < (G.size:Int);(· rw [if_pos c75] at H;have c75b0:decide (D < (G.size:Int))=true:=decide_eq_true c75;clear c75;obtain ⟨d0,g3⟩:∃ y_:List Int,y_=(([]:List Int)):=⟨_,rfl⟩;(replace H:(if 0 ≤ (wrap64 ((B.length:Int) - 2)) then (if (wrap64 ((B.length:Int) - 2)) ≤ (B.length:Int) then ((some (B.drop ((wrap64 ((B.length:Int) - 2)):Int).toNat:List Int)).bind fun a4=>(if d0.length + a4.length < 17592186044416 then (if L.length < 4398046511104 then ((some (([]:List Int):List Int)).bind fun a8=>((some (B.take ((wrap64 ((B.length:Int) - 2)):Int).toNat:List Int)).bind fun X=>(if a8.length + X.length < 17592186044416 then ((some (a8 ++ X:List Int)).bind fun a1=>(if a1.length < 17592186044416 then (bellpullref05_Parse.l0 kj68 G (L ++ [(⟨bt G D,(d0 ++ a4)⟩:S98)]) (a1 ++ [D]) (wrap64 (D + 1))) else (none))) else (none)))) else (none)) else (none))) else (none)) else (none))=some (r1,r2):=by first|(rw [g3];with_reducible exact H)|(have F:=(Option.bind_some _ _).symm.trans H;rw [g3];with_reducible exact F)|(have F:=(Option.bind_some _ _).symm.trans H;with_reducible exact F)|with_reducible exact H|(rw [g3];exact H)|exact H);have s2:=mk0 g3;clear g3;obtain ⟨Q,m4⟩:∃ j_:Int,(wrap64 ((B.length:Int) - 2))=j_:=⟨_,rfl⟩;(replace H:(if 0 ≤ (Q) then (if (Q) ≤ (B.length:Int) then ((some (B.drop ((Q):Int).toNat:List Int)).bind fun a4=>(if d0.length + a4.length < 17592186044416 then (if L.length < 4398046511104 then ((some (([]:List Int):List Int)).bind fun a8=>((some (B.take ((Q):Int).toNat:List Int)).bind fun X=>(if a8.length + X.length < 17592186044416 then ((some (a8 ++ X:List Int)).bind fun a1=>(if a1.length < 17592186044416 then (bellpullref05_Parse.l0 kj68 G (L ++ [(⟨bt G D,(d0 ++ a4)⟩:S98)]) (a1 ++ [D]) (wrap64 (D + 1))) else (none))) else (none)))) else (none)) else (none))) else (none)) else (none))=some (r1,r2):=by first|(rw [m4] at H;exact H)|(simp only [m4] at H ⊢;exact H));have hji77w:(IntKind.i64.wrap ((B.length:Int) - 2))=Q:=(i64_w _).trans m4;by_cases c78:0 ≤ (Q);(· rw [if_pos c78] at H;have c78b0:=eq_true c78;have c78b1:decide (0 ≤ (Q))=true:=decide_eq_true c78;clear c78;by_cases c79:(Q) ≤ (B.length:Int);(· rw [if_pos c79] at H;have c79b0:=eq_true c79;have c79b1:decide ((Q) ≤ (B.length:Int))=true:=decide_eq_true c79;clear c79;obtain ⟨a4,g4⟩:∃ y_:List Int,y_=(B.drop ((Q):Int).toNat):=⟨_,rfl⟩;(replace H:(if d0.length + a4.length < 17592186044416 then (if L.length < 4398046511104 then ((some (([]:List Int):List Int)).bind fun a8=>((some (B.take ((Q):Int).toNat:List Int)).bind fun X=>(if a8.length + X.length < 17592186044416 then ((some (a8 ++ X:List Int)).bind fun a1=>(if a1.length < 17592186044416 then (bellpullref05_Parse.l0 kj68 G (L ++ [(⟨bt G D,(d0 ++ a4)⟩:S98)]) (a1 ++ [D]) (wrap64 (D + 1))) else (none))) else (none)))) else (none)) else (none))=some (r1,r2):=by first|(rw [g4];with_reducible exact H)|(have F:=(Option.bind_some _ _).symm.trans H;rw [g4];with_reducible exact F)|(have F:=(Option.bind_some _ _).symm.trans H;with_reducible exact F)|with_reducible exact H|(rw [g4];exact H)|exact H);have d7:=mk0 g4;clear g4;by_cases c80:d0.length + a4.length < 17592186044416;(· rw [if_pos c80] at H;have A4:=mk0 c80;clear c80;obtain ⟨h7,g5⟩:∃ y_:List Int,y_=(d0 ++ a4):=⟨_,rfl⟩;(replace H:(if L.length < 4398046511104 then ((some (([]:List Int):List Int)).bind fun a8=>((some (B.take ((Q):Int).toNat:List Int)).bind fun X=>(if a8.length + X.length < 17592186044416 then ((some (a8 ++ X:List Int)).bind fun a1=>(if a1.length < 17592186044416 then (bellpullref05_Parse.l0 kj68 G (L ++ [(⟨bt G D,h7⟩:S98)]) (a1 ++ [D]) (wrap64 (D + 1))) else (none))) else (none)))) else (none))=some (r1,r2):=by first|(rw [g5];with_reducible exact H)|(have F:=(Option.bind_some _ _).symm.trans H;rw [g5];with_reducible exact F)|(have F:=(Option.bind_some _ _).symm.trans H;with_reducible exact F)|with_reducible exact H|(rw [g5];exact H)|exact H);have A5:=mk0 g5;clear g5;by_cases c81:L.length < 4398046511104;(· rw [if_pos c81] at H;have A6:=mk0 c81;clear c81;obtain ⟨h8,g6⟩:∃ y_:List (S98),y_=(L ++ [(⟨bt G D,h7⟩:S98)]):=⟨_,rfl⟩;(replace H:((some (([]:List Int):List Int)).bind fun a8=>((some (B.take ((Q):Int).toNat:List Int)).bind fun X=>(if a8.length + X.length < 17592186044416 then ((some (a8 ++ X:List Int)).bind fun a1=>(if a1.length < 17592186044416 then (bellpullref05_Parse.l0 kj68 G h8 (a1 ++ [D]) (wrap64 (D + 1))) else (none))) else (none))))=some (r1,r2):=by first|(rw [g6];with_reducible exact H)|(have F:=(Option.bind_some _ _).symm.trans H;rw [g6];with_reducible exact F)|(have F:=(Option.bind_some _ _).symm.trans H;with_reducible exact F)|with_reducible exact H|(rw [g6];exact H)|exact H);have A7:=mk0 g6;clear g6;obtain ⟨a8,g7⟩:∃ y_:List Int,y_=(([]:List Int)):=⟨_,rfl⟩;(replace H:((some (B.take ((Q):Int).toNat:List Int)).bind fun X=>(if a8.length + X.length < 17592186044416 then ((some (a8 ++ X:List Int)).bind fun a1=>(if a1.length < 17592186044416 then (bellpullref05_Parse.l0 kj68 G h8 (a1 ++ [D]) (wrap64 (D + 1))) else (none))) else (none)))=some (r1,r2):=by first|(rw [g7];with_reducible exact H)|(have F:=(Option.bind_some _ _).symm.trans H;rw [g7];with_reducible exact F)|(have F:=(Option.bind_some _ _).symm.trans H;with_reducible exact F)|with_reducible exact H|(rw [g7];exact H)|exact H);have s3:=mk0 g7;clear g7;have c82b0:=eq_true (of_decide_eq_true (by first|(with_reducible assumption)|assumption):0 ≤ (Q));have c83b0:=eq_true (of_decide_eq_true (by first|(with_reducible assumption)|assumption):(Q) ≤ (B.length:Int));obtain ⟨X,g8⟩:∃ y_:List Int,y_=(B.take ((Q):Int).toNat):=⟨_,rfl⟩;(replace H:(if a8.length + X.length < 17592186044416 then ((some (a8 ++ X:List Int)).bind fun a1=>(if a1.length < 17592186044416 then (bellpullref05_Parse.l0 kj68 G h8 (a1 ++ [D]) (wrap64 (D + 1))) else (none))) else (none))=some (r1,r2):=by first|(rw [g8];with_reducible exact H)|(have F:=(Option.bind_some _ _).symm.trans H;rw [g8];with_reducible exact F)|(have F:=(Option.bind_some _ _).symm.trans H;with_reducible exact F)|with_reducible exact H|(rw [g8];exact H)|exact H);have i9:=mk0 g8;clear g8;by_cases c84:a8.length + X.length < 17592186044416;(· rw [if_pos c84] at H;have A8:=mk0 c84;clear c84;obtain ⟨a1,g9⟩:∃ y_:List Int,y_=(a8 ++ X):=⟨_,rfl⟩;(replace H:(if a1.length < 17592186044416 then (bellpullref05_Parse.l0 kj68 G h8 (a1 ++ [D]) (wrap64 (D + 1))) else (none))=some (r1,r2):=by first|(rw [g9];with_reducible exact H)|(have F:=(Option.bind_some _ _).symm.trans H;rw [g9];with_reducible exact F)|(have F:=(Option.bind_some _ _).symm.trans H;with_reducible exact F)|with_reducible exact H|(rw [g9];exact H)|exact H);have A9:=mk0 g9;clear g9;by_cases c85:a1.length < 17592186044416;(· rw [if_pos c85] at H;have B0:=mk0 c85;clear c85;obtain ⟨v9,h0⟩:∃ y_:List Int,y_=(a1 ++ [D]):=⟨_,rfl⟩;(replace H:(bellpullref05_Parse.l0 kj68 G h8 v9 (wrap64 (D + 1)))=some (r1,r2):=by first|(rw [h0];with_reducible exact H)|(have F:=(Option.bind_some _ _).symm.trans H;rw [h0];with_reducible exact F)|(have F:=(Option.bind_some _ _).symm.trans H;with_reducible exact F)|with_reducible exact H|(rw [h0];exact H)|exact H);(have B1:=mk0 h0;clear h0;have H':=mk0 H;clear H;obtain ⟨b8,b1,E0⟩:=Kd.R_slice E.1;subst E0;try go_wp2);replace J:=mk0 (Kd.S_drew J.1);replace E:=rdr E;replace I:=hdr I;have C2:0 ≤ (D:Int):=of_decide_eq_true (by first|(with_reducible assumption)|assumption);have C3:D < (G.size:Int):=of_decide_eq_true (by first|(with_reducible assumption)|assumption);have J2:=bt_at G D;replace C2:=eq_true C2;replace C3:=eq_true C3;have x0:((Q):Int) ≤ ((B.length:Int):Int):=of_decide_eq_true (by first|(with_reducible assumption)|assumption);obtain ⟨J3,s4,_,s5,_⟩:=info_parts info3;have h9:B.length ≤ b1:=(Kd.R_reads' E.1).2.1;have x1:Kd.C (Kd.int .i64) _ b8 B.length B:=(Kd.R_reads' E.1).2.2;have E1:(0:Int) ≤ ((Q):Int):=of_decide_eq_true (by first|(with_reducible assumption)|assumption);have x2:=cut_from (P:=Try.prog) 23 3 .i64 Try.underlying23 s4 1 s5 b8 B.length b1 (Q) E1 x0;have j7:=Kd.C_drop (m:=((Q):Int).toNat) (c:=b1) x1 (by omega) h9;obtain ⟨n8,m5⟩:∃ AA,AA=(if b1=((Q):Int).toNat then b8 else (b8:Option Addr).map (·.add (((Q):Int).toNat * 1))):=⟨_,rfl⟩;obtain ⟨F5,o7⟩:∃ cc,cc=b1 - ((Q):Int).toNat:=⟨_,rfl⟩;have m6:a4.length=B.length - ((Q):Int).toNat:=(by rw [d7.1,l0_] <;> omega);rw [show (B).drop ((Q):Int).toNat=a4 from d7.1.symm] at j7;replace j7:Kd.C (Kd.int .i64) _ n8 a4.length a4:=(by rw [m5];exact j7);rw [← m6,← m5,← o7] at x2;have c3:=mk0 j7;have G3:=mk0 (show a4.length ≤ F5 from by rw [m6,o7];exact Nat.sub_le_sub_right h9 _);clear j7 x1 h9 s4 s5 o7;have J4:=mk0 m6;have m7:=mk0 m5;clear m6 m5;have m8:=mk0 (show ((Q):Int).toNat ≤ B.length from by omega);replace x0:=eq_true x0;refine start_ (n:=15) (S:=fun w'=>True) (ds:=[]) #[n_,n_,n_,n_,n_,n_,n_,n_,n_,n_,n_,n_,n_,n_,n_] (by kernel_rfl) rfl rfl trivial (fun a5=>?_);refine with_tabW bellpullref05_Parse.tab20 bellpullref05_Parse.bits20 (fun T n2=>?_);generalize wc.drew=L8 at J E I c3 a5 ⊢;refine pure_ (i:=0) (N:=some 35) (v:=?_) (a':=?_) #[y_,n_,n_,n_,n_,n_,n_,n_,n_,n_,n_,n_,n_,n_,n_] rfl rfl (any_of T.1 (by kernel_rfl)) (fun _ _ _ h=>h) (Or.inl ⟨by rfl,?_⟩) ?_ ?_;rotate_left;(· intro w';go_simp;with_reducible rfl);rotate_left;(· simp only [Act.put,s0_,s1_,s2_,i64_w,i32_w];rfl);refine pure_ (i:=1) (N:=some 36) (v:=?_) (a':=?_) #[y_,y_,n_,n_,n_,n_,n_,n_,n_,n_,n_,n_,n_,n_,n_] rfl rfl (any_of T.1 (by kernel_rfl)) (fun _ _ _ h=>h) (Or.inl ⟨by rfl,?_⟩) ?_ ?_;rotate_left;(· intro w';go_simp;with_reducible rfl);rotate_left;(· simp only [Act.put,s0_,s1_,s2_,i64_w,i32_w];rfl);refine pure_ (i:=2) (N:=some 37) (v:=?_) (a':=?_) #[y_,y_,y_,n_,n_,n_,n_,n_,n_,n_,n_,n_,n_,n_,n_] rfl rfl (any_of T.1 (by kernel_rfl)) (fun _ _ _ h=>h) (Or.inl ⟨by rfl,?_⟩) ?_ ?_;rotate_left;(· intro w';go_simp;with_reducible rfl);rotate_left;(· simp only [Act.put,s0_,s1_,s2_,i64_w,i32_w];rfl);refine pure_ (i:=5) (N:=some 40) (v:=?_) (a':=?_) #[y_,y_,y_,n_,n_,y_,n_,n_,n_,n_,n_,n_,n_,n_,n_] rfl rfl (any_of T.1 (by kernel_rfl)) (fun _ _ _ h=>h) (Or.inl ⟨by rfl,?_⟩) ?_ ?_;rotate_left;(· intro w';go_simp;with_reducible rfl);rotate_left;(· simp only [Act.put,s0_,s1_,s2_,i64_w,i32_w];rfl);refine pure_ (i:=6) (N:=some 41) (v:=?_) (a':=?_) #[y_,y_,y_,n_,n_,y_,y_,n_,n_,n_,n_,n_,n_,n_,n_] rfl rfl (any_of T.1 (by kernel_rfl)) (fun _ _ _ h=>h) (Or.inl ⟨by rfl,?_⟩) ?_ ?_;rotate_left;(· intro w';go_simp;with_reducible rfl);rotate_left;(· simp only [Act.put,s0_,s1_,s2_,i64_w,i32_w];rfl);refine pure_ (i:=7) (N:=some 42) (v:=?_) (a':=?_) #[y_,y_,y_,n_,n_,y_,y_,y_,n_,n_,n_,n_,n_,n_,n_] rfl rfl (any_of T.1 (by kernel_rfl)) (fun _ _ _ h=>h) (Or.inl ⟨by rfl,?_⟩) ?_ ?_;rotate_left;(· intro w';go_simp;with_reducible rfl);rotate_left;(· simp only [Act.put,s0_,s1_,s2_,i64_w,i32_w];rfl);refine pure_ (i:=8) (N:=some 43) (v:=?_) (a':=?_) #[y_,y_,y_,n_,n_,y_,y_,y_,y_,n_,n_,n_,n_,n_,n_] rfl rfl (any_of T.1 (by kernel_rfl)) (fun _ _ _ h=>h) (Or.inl ⟨by rfl,?_⟩) ?_ ?_;rotate_left;(· intro w';go_simp;with_reducible rfl);rotate_left;(· simp only [Act.put,s0_,s1_,s2_,i64_w,i32_w];rfl);refine pure_ (i:=9) (N:=some 44) (v:=?_) (a':=?_) #[y_,y_,y_,n_,n_,y_,y_,y_,y_,y_,n_,n_,n_,n_,n_] rfl rfl (any_of T.1 (by kernel_rfl)) (fun _ _ _ h=>h) (Or.inl ⟨by rfl,?_⟩) ?_ ?_;rotate_left;(· intro w';go_simp;with_reducible rfl);rotate_left;(· simp only [Act.put,s0_,s1_,s2_,i64_w,i32_w];rfl);refine take_ (i:=3) (N:=some 38) (v:=?_) (a':=?_) #[y_,y_,y_,y_,n_,y_,y_,y_,y_,y_,n_,n_,n_,n_,n_] rfl rfl (take_ofW T.1 n2.1 (by kernel_rfl)) (fun _ _ _ h=>h) (Or.inl ⟨by rfl,?_⟩) a5 ?_ ?_;rotate_left;(· intro w' _;go_simp;with_reducible rfl);rotate_left;(· simp only [Act.put,s0_,s1_,s2_,i64_w,i32_w];rfl);refine one_ (i:=4) (N:=some 39) #[y_,y_,y_,y_,y_,y_,y_,y_,y_,y_,n_,n_,n_,n_,n_] rfl rfl (one_of T.1 (by kernel_rfl)) (by decide) (fun K hK=>?_);refine Kd.R_lit_step (Kd.int .i64) _ 3 ?hg (N:=39) ?hd (xs:=([]:List Int)) (inner:=[]) (ok:=fun _=>True) (okp:=fun _=>True) ?hr ?hp (fun _ hk=>hk) trivial (Below.refl _ _) (Nat.le_refl _) (by simp) ?_;(case hd=>rfl);(case hg=>rfl);(case hr=>first|(go_simp;done)|(go_simp;rfl));(case hp=>exact (Reps.none _ _));intro E2 L9 e2 hb hg_ b4;clear hg_ b4;(first|rw [← s2.1] at e2|(simp only [Int.reduceToNat] at e2;rw [← s2.1] at e2));have s6:=mk0 (Kd.R_lower (Kd.R_new' e2 (Kd.R_lt E.1)) (below_size I.1));replace J:=mk0 (Kd.S_elder' J.1 (Kd.R_base e2) hb);replace E:=mk0 (Kd.R_elder' E.1 (Kd.R_base e2) hb);replace c3:=mk0 (Kd.C_below (by repeat (first|(with_reducible exact c3.1)|(with_reducible refine Kd.C_alloc ?_ _)|(with_reducible refine Kd.C_drewN ?_ _)|(with_reducible refine Kd.C_drew ?_)|exact c3.1)) hb);replace I:=bst I hb;clear hb e2;refine hK.out _ _ trivial (fun a5=>?_);clear hK K;refine norm_ (a':=?_) ?_ ?_;rotate_left;(· show Act.put _ (some 39) _=_;simp only [Act.put,s0_,s1_,s2_,i64_w,i32_w];rfl);refine one_ (i:=10) (N:=some 45) #[y_,y_,y_,y_,y_,y_,y_,y_,y_,y_,y_,n_,n_,n_,n_] rfl rfl (one_of T.1 (by kernel_rfl)) (by decide) (fun K hK=>?_);refine Kd.R_append_rows_step (Kd.int .i64) (w0:=w) w.heap.size (by rfl) (.tmp 39) (.tmp 44) 23 3 (.int .i64 0) 8 rfl Try.underlying23 info3 rfl (by decide) (by omega) E2 d0 a4 _ _ _ (fun k_=>some k_ ≠ (.slice b8 B.length b1:Value).ownBlock) (fun _=>False) rfl rfl ?aO ?aR (fun _ _ h=>h) (fun _ h=>h.elim) ?aF ?aB ?aS ?aL ?_;(case aR=>repeat (first|exact (by repeat (first|(with_reducible exact c3.1)|(with_reducible refine Kd.C_alloc ?_ _)|(with_reducible refine Kd.C_drewN ?_ _)|(with_reducible refine Kd.C_drew ?_)|exact c3.1))|(with_reducible refine Kd.C_alloc ?_ _)|(with_reducible refine Kd.C_drewN ?_ _)|(with_reducible refine Kd.C_drew ?_)));(case aB=>exact I.1);(case aF=>exact (fun k_ hk=>Kd.fresh' (Kd.R_lt E.1) k_ hk));(case aO=>exact (by (with_reducible repeat (first|apply Kd.R_alloc|apply Kd.R_drewN|apply Kd.R_drew));exact Kd.R_mono s6.1 (fun _ hk=>hk.2)));(case aS=>exact (below_size I.1));(case aL=>have:=A4.1;omega);intro J5 F6 ho hb hg hat;rw [← A5.1] at ho;have j0:=mk0 (ho);replace J:=mk0 (Kd.S_after (ok:=(fun k_=>some k_ ≠ (.slice b8 B.length b1:Value).ownBlock)) J.1 hg hat);replace I:=mk0 (hb);replace c3:=mk0 ((show Kd.C (Kd.int .i64) F6 n8 a4.length a4 from by rw [d7.1,m7.1];exact Kd.C_drop (m:=((Q):Int).toNat) (c:=b1) ((Kd.R_reads' (Kd.R_after (ok:=(fun _=>True)) E.1 hg hat)).2.2) m8.1 ((Kd.R_reads' (Kd.R_after (ok:=(fun _=>True)) E.1 hg hat)).2.1)));replace E:=mk0 (Kd.R_after (ok:=(fun _=>True)) E.1 hg hat);clear s6;clear ho hb hg hat;obtain ⟨x3,x4,x5⟩:=Kd.R_slice j0.1;(first|subst x5|(injection x5 with f1_ f2_ f3_;have f4_:=f1_.symm;have n3:=f3_.symm;clear f1_ f2_ f3_;subst f4_;subst n3));refine hK.out _ _ trivial (fun a5=>?_);clear hK K;refine norm_ (a':=?_) ?_ ?_;rotate_left;(· show Act.put _ (some 45) _=_;simp only [Act.put,s0_,s1_,s2_,i64_w,i32_w];rfl);refine pure_ (i:=11) (N:=some 46) (v:=?_) (a':=?_) #[y_,y_,y_,y_,y_,y_,y_,y_,y_,y_,y_,y_,n_,n_,n_] rfl rfl (any_of T.1 (by kernel_rfl)) (fun _ _ _ h=>h) (Or.inl ⟨by rfl,?_⟩) ?_ ?_;rotate_left;(· intro w';go_simp;with_reducible rfl);rotate_left;(· simp only [Act.put,s0_,s1_,s2_,i64_w,i32_w];rfl);refine one_ (i:=12) (N:=some 47) #[y_,y_,y_,y_,y_,y_,y_,y_,y_,y_,y_,y_,y_,n_,n_] rfl rfl (one_of T.1 (by kernel_rfl)) (by decide) (fun K hK=>?_);refine value_ (w1:=?_) (v:=?_) (by rfl) rfl ?_ ?_;rotate_left 2;(· go_simp;constructor;(· rfl);· rfl);refine hK.out _ _ trivial (fun a5=>?_);clear hK K;refine norm_ (a':=?_) ?_ ?_;rotate_left;(· show Act.put _ (some 47) _=_;simp only [Act.put,s0_,s1_,s2_,i64_w,i32_w];rfl);refine one_ (i:=13) (N:=some 48) #[y_,y_,y_,y_,y_,y_,y_,y_,y_,y_,y_,y_,y_,y_,n_] rfl rfl (one_of T.1 (by kernel_rfl)) (by decide) (fun K hK=>?_);refine Kd.S_append_step k98 (w0:=w) w.heap.size (by rfl) (.tmp 35) (.tmp 47) 39 98 (.agg #[(.int .u8 0),(.slice none 0 0)]) 32 rfl Try.underlying39 info98 rfl (by decide) (by omega) u4 L (⟨bt G D,h7⟩:S98) [.int .u8 (bt G D),.slice x3 h7.length x4] (fun k_=>some k_ ≠ (.slice b8 B.length b1:Value).ownBlock) (fun k_=>some k_=(.slice x3 h7.length x4:Value).ownBlock) rfl rfl ?aP (fun k_ hk_=>((Kd.R_mono (ok':=fun k_=>((fun k_=>some k_ ≠ (.slice b8 B.length b1:Value).ownBlock)) k_∧some k_ ≠ (u4:Value).ownBlock) (Kd.R_apart' (j0.1) (Kd.S_typed J.1) (by decide)) (fun k_ hk=>⟨hk.1,hk.2⟩))).1 k_ hk_.symm) ?aF ?aO ?aB ?aS ?aL ?_;(case aP=>exact k98_mkM _ _ _ (⟨bt G D,h7⟩:S98) (Kd.R_mono (Kd.R_tight rfl (Kd.R_mono (ok':=fun k_=>((fun k_=>some k_ ≠ (.slice b8 B.length b1:Value).ownBlock)) k_∧some k_ ≠ (u4:Value).ownBlock) (Kd.R_apart' (j0.1) (Kd.S_typed J.1) (by decide)) (fun k_ hk=>⟨hk.1,hk.2⟩))) (fun _ h_=>h_)));(case aB=>exact I.1);(case aF=>exact (fun k_ hk=>Kd.fresh' (Kd.R_lt E.1) k_ hk));(case aO=>exact (by (with_reducible repeat (first|apply Kd.S_alloc|apply Kd.S_drewN|apply Kd.S_drew));exact Kd.S_mono J.1 (fun k_ hk=>⟨hk.1,fun e_=>hk.2 e_⟩)));(case aS=>exact (below_size I.1));(case aL=>have:=A6.1;omega);intro J6 F7 ho hb hg hat;rw [← A7.1] at ho;have d3:=mk0 (ho);replace I:=mk0 (hb);replace c3:=mk0 ((show Kd.C (Kd.int .i64) F7 n8 a4.length a4 from by rw [d7.1,m7.1];exact Kd.C_drop (m:=((Q):Int).toNat) (c:=b1) ((Kd.R_reads' (Kd.R_over' E.1 (Kd.S_typed J.1) (by decide) hg)).2.2) m8.1 ((Kd.R_reads' (Kd.R_over' E.1 (Kd.S_typed J.1) (by decide) hg)).2.1)));replace E:=mk0 (Kd.R_over' E.1 (Kd.S_typed J.1) (by decide) hg);clear J;clear j0;clear ho hb hg hat;refine hK.out _ _ trivial (fun a5=>?_);clear hK K;refine norm_ (a':=?_) ?_ ?_;rotate_left;(· show Act.put _ (some 48) _=_;simp only [Act.put,s0_,s1_,s2_,i64_w,i32_w];rfl);refine pure_ (i:=14) (N:=some 4) (v:=?_) (a':=?_) #[y_,y_,y_,y_,y_,y_,y_,y_,y_,y_,y_,y_,y_,y_,y_] rfl rfl (any_of T.1 (by kernel_rfl)) (fun _ _ _ h=>h) (Or.inl ⟨by rfl,?_⟩) ?_ ?_;rotate_left;(· intro w';go_simp;with_reducible rfl);rotate_left;(· simp only [Act.put,s0_,s1_,s2_,i64_w,i32_w];rfl);(refine done_ (done_of T.1 (by kernel_rfl)) ?_;try go_wp2_with (first|((with_reducible refine gate_dst (N:=49) rfl ?_);refine Kd.R_lit (Kd.int .i64) _ 3 ?hg (N:=49) ?hd (xs:=([]:List Int)) (inner:=[]) (ok:=fun _=>True) (okp:=fun _=>True) ?hr ?hp (fun _ hk=>hk) trivial (Below.refl _ _) (Nat.le_refl _) (by simp) ?_;(case hd=>rfl);(case hg=>rfl);(case hr=>first|(go_simp;done)|(go_simp;rfl));(case hp=>exact (Reps.none _ _));intro E3 M0 e3 hb hg_ b4;clear hg_ b4;(first|rw [← s3.1] at e3|(simp only [Int.reduceToNat] at e3;rw [← s3.1] at e3));have s7:=mk0 (Kd.R_lower (Kd.R_new' e3 (Kd.R_lt E.1)) (below_size I.1));replace E:=mk0 (Kd.R_elder' E.1 (Kd.R_base e3) hb);replace d3:=mk0 (Kd.S_elder' d3.1 (Kd.R_base e3) hb);replace c3:=mk0 (Kd.C_below (by repeat (first|(with_reducible exact c3.1)|(with_reducible refine Kd.C_alloc ?_ _)|(with_reducible refine Kd.C_drewN ?_ _)|(with_reducible refine Kd.C_drew ?_)|exact c3.1)) hb);replace I:=bst I hb;clear hb e3;have x6:((Q):Int) ≤ ((B.length:Int):Int):=of_decide_eq_true (by first|(with_reducible assumption)|assumption);obtain ⟨J7,s8,_,B2,_⟩:=info_parts info3;have l3:B.length ≤ b1:=(Kd.R_reads' E.1).2.1;have x7:Kd.C (Kd.int .i64) _ b8 B.length B:=(Kd.R_reads' E.1).2.2;have x8:=cut_to (P:=Try.prog) 23 3 .i64 Try.underlying23 s8 b8 B.length b1 (Q) (of_decide_eq_true (by first|(with_reducible assumption)|assumption)) x6 l3;have o8:=Kd.C_take (m:=((Q):Int).toNat) x7 (by omega);have o9:X.length=((Q):Int).toNat:=(by rw [i9.1,l1_];omega);rw [← i9.1] at o8;rw [← o9] at x8;have j3:=mk0 o8;have G4:=mk0 (show X.length ≤ b1 from by omega);clear o8 x7 l3 s8 B2;have J8:=mk0 o9;clear o9;have x9:=mk0 (show ((Q):Int).toNat ≤ B.length from by omega);replace x6:=eq_true x6)|((with_reducible refine gate_builtin (b:=.append) (xs:=#[.tmp 49,.tmp 54]) rfl ?_);at_builtin;refine Kd.R_append_rows (Kd.int .i64) (w0:=w) w.heap.size rfl (.tmp 49) (.tmp 54) 23 3 (.int .i64 0) 8 rfl Try.underlying23 info3 rfl (by decide) (by omega) E3 a8 X _ _ _ (fun k_=>some k_ ≠ (.slice b8 B.length b1:Value).ownBlock) (fun _=>False) rfl rfl ?aO ?aR (fun _ _ h=>h) (fun _ h=>h.elim) ?aF ?aB ?aS ?aL ?_;(case aR=>repeat (first|exact (by repeat (first|(with_reducible exact j3.1)|(with_reducible refine Kd.C_alloc ?_ _)|(with_reducible refine Kd.C_drewN ?_ _)|(with_reducible refine Kd.C_drew ?_)|exact j3.1))|(with_reducible refine Kd.C_alloc ?_ _)|(with_reducible refine Kd.C_drewN ?_ _)|(with_reducible refine Kd.C_drew ?_)));(case aB=>exact (by repeat (first|(with_reducible first|exact I.1|apply below_alloc|apply pw_below_drewN|apply below_drew1)|exact I.1)));(case aF=>exact (fun k_ hk=>Kd.fresh' (Kd.R_lt (by (with_reducible repeat (first|apply Kd.R_alloc|apply Kd.R_drewN|apply Kd.R_drew));exact E.1)) k_ hk));(case aO=>exact (by (with_reducible repeat (first|apply Kd.R_alloc|apply Kd.R_drewN|apply Kd.R_drew));exact Kd.R_mono s7.1 (fun _ hk=>hk.2)));(case aS=>exact (below_size (by repeat (first|(with_reducible first|exact I.1|apply below_alloc|apply pw_below_drewN|apply below_drew1)|exact I.1))));(case aL=>have:=A8.1;omega);intro E4 C4 ho hb hg hat;rw [← A9.1] at ho;have s9:=mk0 (ho);replace d3:=mk0 (Kd.S_after (ok:=(fun k_=>some k_ ≠ (.slice b8 B.length b1:Value).ownBlock)) (by (with_reducible repeat (first|apply Kd.S_alloc|apply Kd.S_drewN|apply Kd.S_drew));exact d3.1) hg hat);replace I:=mk0 (hb);replace c3:=mk0 ((show Kd.C (Kd.int .i64) C4 n8 a4.length a4 from by rw [d7.1,m7.1];exact Kd.C_drop (m:=((Q):Int).toNat) (c:=b1) ((Kd.R_reads' (Kd.R_after (ok:=(fun _=>True)) (by (with_reducible repeat (first|apply Kd.R_alloc|apply Kd.R_drewN|apply Kd.R_drew));exact Kd.R_mono E.1 (fun _ hk=>⟨trivial,hk.2⟩)) hg hat)).2.2) m8.1 ((Kd.R_reads' (Kd.R_after (ok:=(fun _=>True)) (by (with_reducible repeat (first|apply Kd.R_alloc|apply Kd.R_drewN|apply Kd.R_drew));exact Kd.R_mono E.1 (fun _ hk=>⟨trivial,hk.2⟩)) hg hat)).2.1)));replace j3:=mk0 ((show Kd.C (Kd.int .i64) C4 b8 X.length X from by rw [i9.1];exact Kd.C_take (m:=((Q):Int).toNat) ((Kd.R_reads' (Kd.R_after (ok:=(fun _=>True)) (by (with_reducible repeat (first|apply Kd.R_alloc|apply Kd.R_drewN|apply Kd.R_drew));exact Kd.R_mono E.1 (fun _ hk=>⟨trivial,hk.2⟩)) hg hat)).2.2) x9.1));replace E:=mk0 (Kd.R_after (ok:=(fun _=>True)) (by (with_reducible repeat (first|apply Kd.R_alloc|apply Kd.R_drewN|apply Kd.R_drew));exact Kd.R_mono E.1 (fun _ hk=>⟨trivial,hk.2⟩)) hg hat);clear s7;clear ho hb hg hat)|((with_reducible refine gate_builtin (b:=.append) (xs:=#[.tmp 55,.tmp 57]) rfl ?_);at_builtin;refine Kd.R_append (Kd.int .i64) (w0:=w) w.heap.size rfl (.tmp 55) (.tmp 57) 23 3 (.int .i64 0) 8 rfl Try.underlying23 info3 rfl (by decide) (by omega) E4 a1 D [.int .i64 D] (fun k_=>some k_ ≠ (.slice b8 B.length b1:Value).ownBlock) (fun _=>False) rfl rfl ?aP (fun _ hk=>hk.elim) ?aF ?aO ?aB ?aS ?aL ?_;(case aP=>exact rfl);(case aB=>exact (by repeat (first|(with_reducible first|exact I.1|apply below_alloc|apply pw_below_drewN|apply below_drew1)|exact I.1)));(case aF=>exact (fun k_ hk=>Kd.fresh' (Kd.R_lt (by (with_reducible repeat (first|apply Kd.R_alloc|apply Kd.R_drewN|apply Kd.R_drew));exact E.1)) k_ hk));(case aO=>exact (by (with_reducible repeat (first|apply Kd.R_alloc|apply Kd.R_drewN|apply Kd.R_drew));exact s9.1));(case aS=>exact (below_size (by repeat (first|(with_reducible first|exact I.1|apply below_alloc|apply pw_below_drewN|apply below_drew1)|exact I.1))));(case aL=>have:=B0.1;omega);intro J9 C5 ho hb hg hat;rw [← B1.1] at ho;have B3:=mk0 (ho);replace d3:=mk0 (Kd.S_after (ok:=(fun k_=>some k_ ≠ (.slice b8 B.length b1:Value).ownBlock)) (by (with_reducible repeat (first|apply Kd.S_alloc|apply Kd.S_drewN|apply Kd.S_drew));exact d3.1) hg hat);replace I:=mk0 (hb);replace c3:=mk0 ((show Kd.C (Kd.int .i64) C5 n8 a4.length a4 from by rw [d7.1,m7.1];exact Kd.C_drop (m:=((Q):Int).toNat) (c:=b1) ((Kd.R_reads' (Kd.R_after (ok:=(fun _=>True)) (by (with_reducible repeat (first|apply Kd.R_alloc|apply Kd.R_drewN|apply Kd.R_drew));exact E.1) hg hat)).2.2) m8.1 ((Kd.R_reads' (Kd.R_after (ok:=(fun _=>True)) (by (with_reducible repeat (first|apply Kd.R_alloc|apply Kd.R_drewN|apply Kd.R_drew));exact E.1) hg hat)).2.1)));replace j3:=mk0 ((show Kd.C (Kd.int .i64) C5 b8 X.length X from by rw [i9.1];exact Kd.C_take (m:=((Q):Int).toNat) ((Kd.R_reads' (Kd.R_after (ok:=(fun _=>True)) (by (with_reducible repeat (first|apply Kd.R_alloc|apply Kd.R_drewN|apply Kd.R_drew));exact E.1) hg hat)).2.2) x9.1));replace E:=mk0 (Kd.R_after (ok:=(fun _=>True)) (by (with_reducible repeat (first|apply Kd.R_alloc|apply Kd.R_drewN|apply Kd.R_drew));exact E.1) hg hat);clear s9;clear ho hb hg hat)));go_roundg kj68;(case measure=>have:=d4.1;have:=i0.1;have:=v8.1;omega);case rel=>exact ⟨(h8),(v9),(wrap64 (D + 1)),(by first|rfl|(simp;done)|(simp [*];done)),H',⟨by have:=d4.1;have:=i0.1;have:=v8.1;omega⟩,⟨by (with_reducible repeat (first|apply Kd.S_alloc|apply Kd.S_drewN|apply Kd.S_drew));exact Kd.S_mono d3.1 (fun _ hk=>hk.2)⟩,⟨by (with_reducible repeat (first|apply Kd.R_alloc|apply Kd.R_drewN|apply Kd.R_drew));exact Kd.R_mono B3.1 (fun _ hk=>trivial)⟩,⟨by repeat (first|(with_reducible first|exact I.1|apply below_alloc|apply pw_below_drewN|apply below_drew1)|exact I.1)⟩⟩);· rw [if_neg c85] at H;exact absurd H (by simp));· rw [if_neg c84] at H;exact absurd H (by simp));· rw [if_neg c81] at H;exact absurd H (by simp));· rw [if_neg c80] at H;exact absurd H (by simp));· rw [if_neg c79] at H;exact absurd H (by simp));· rw [if_neg c78] at H;exact absurd H (by simp));· rw [if_neg c75] at H;exact absurd H (by simp));· rw [if_neg c74] at H;exact absurd H (by simp));· (replace s1:=Bool.eq_false_iff.mpr s1;subst s1;have H1:(some (([]:List (S98)),false))=some (r1,r2):=by rw [if_neg (show ¬ (false=true) by decide)] at H;exact H);clear H;have H:=H1;clear H1;simp only [Option.some.injEq,Prod.mk.injEq] at H;obtain ⟨rfl,rfl⟩:=H;go_wp2;go_ret2;exact ⟨_,by first|rfl|(simp [errW_none,errW_some] <;> rfl)|(simp [*,errW_none,errW_some] <;> rfl),by first|exact Kd.S_nil _ _ _ _ _|exact Kd.N_nil _ _ _ _ _|exact Kd.V_nil _ _ _ _ _|exact Kd.Q_nil _ _ _ _ _|exact Kd.R_nil _ _ _ _ _,by repeat (first|(with_reducible first|exact I.1|apply below_alloc|apply pw_below_drewN|apply below_drew1)|exact I.1)⟩
    · rw [if_neg c7] at H;exact absurd H (by simp)
   · rw [if_neg c6] at H;have c6b0:decide (D < (G.size:Int))=false:=decide_eq_false c6;clear c6;simp only [Option.some.injEq,Prod.mk.injEq] at H;obtain ⟨rfl,rfl⟩:=H;obtain ⟨L0,L1,E5⟩:=Kd.R_slice E.1;subst E5;go_wp2;go_ret2;exact ⟨_,by first|rfl|(simp [errW_none,errW_some] <;> rfl)|(simp [*,errW_none,errW_some] <;> rfl),by (with_reducible repeat (first|apply Kd.S_alloc|apply Kd.S_drewN|apply Kd.S_drew));exact Kd.S_mono J.1 (fun _ hk=>trivial),by repeat (first|(with_reducible first|exact I.1|apply below_alloc|apply pw_below_drewN|apply below_drew1)|exact I.1)⟩
end Go.Proofs.Ytkonljiembcdlaa.PC
namespace Go.Proofs.Ytkonljiembcdlaa.PC
open Go.Proofs.MyWords Go.RowKit Go.Proofs.YtkonljiembcdlaaW.PrintWords Go.Proofs.YtkonljiembcdlaaW.PrintLast Go.Proofs.YtkonljiembcdlaaW.PrintMore
set_option linter.unusedVariables false
set_option linter.unusedSimpArgs false
def images_tail (k:Nat) (s:ByteArray) (l:List S60) (e:Int):Option Bool :=
  if 30 < s.size then (if l=[]∧e=3 then bellpulllaw05_lives.f k else none) else
    (bellpullref05_Parse.f k s).bind fun p=>if p.2=true then (if p.1.length ≤ 1000000 then (bellpullref05_Image.f k p.1 ((p.1.length:Int) - 1)).bind fun q =>
      if q.2=true then (bellpullref05_Same.f k l q.1).bind fun b=>if b=true∧e=0 then bellpulllaw05_lives.f k else none
      else if l=[]∧e=7 then bellpulllaw05_lives.f k else none else none)
    else if l=[]∧e=2 then bellpulllaw05_lives.f k else none
def bellpulllaw05_CountImages.f (k:Nat) (x:ByteArray):Option Bool:=(bellpulllaw05_text.f x).bind fun s=>(count_Image.f k s).bind fun r=>images_tail k s r.1 r.2
set_option maxHeartbeats 4000000 in
set_option maxRecDepth 100000 in
theorem bellpulllaw05_CountImages.calls (k:Nat) (x:ByteArray) (r:Bool) (w:World) (h:bellpulllaw05_CountImages.f k x=some r) :
    Calls Try.prog 5 #[.string x] w fun e w'=>e=.returned (.bool r)∧Below w.heap.size w w':=by
  unfold bellpulllaw05_CountImages.f at h
  obtain ⟨s,hs,h2⟩:=Option.bind_eq_some_iff.mp h
  clear h
  obtain ⟨⟨l,le⟩,hl,h3⟩:=Option.bind_eq_some_iff.mp h2
  clear h2
  unfold images_tail at h3
  dsimp only at h3
  have HT:=mk0 (bellpulllaw05_text.calls x s w hs)
  have HI:=mk0 hl
  have HH:=mk0 h3
  clear hs hl h3
  go_enter Try.func5,Try.ntmps5
  go_upto_region 3 with (first
    | (go_at_call 25;(with_reducible refine HT.1.mono ?_);rintro e w1 ⟨rfl,hb⟩;have HB:=mk0 hb;clear hb)
    | (go_at_call 29;(with_reducible refine (count_Image.calls k s l le _ HI.1).mono ?_);rintro e w2 ⟨v,rfl,hV,hb⟩;replace HB:=mk0 (below_step HB.1 hb);have HV:=mk0 hV;clear hb hV))
  obtain ⟨A,c,rfl,hl,hF⟩:=HV.1
  have HL:=mk0 (Kd.F_now hF)
  have HC:=mk0 hl
  have HZ:=mk0 (Below.refl w2.heap.size w2)
  clear hl hF HV HT HI
  have h:=HH.1
  clear HH
  have FIN:Aside0 (bellpulllaw05_lives.f k=some r → ∀ W,Below w2.heap.size w2 W → Calls Try.prog 22 #[] W fun e w'=>e=.returned (.bool r)∧Below w.heap.size w w'):=⟨fun hv W hW=>by
    refine (bellpulllaw05_lives.calls k r W hv).mono ?_
    rintro e w' ⟨rfl,hb⟩
    exact ⟨rfl,below_step HB.1 (below_step hW hb)⟩⟩
  by_cases hlong:30 < s.size
  · rw [if_pos hlong] at h
    by_cases hc:l=[]∧le=3
    case neg=>rw [if_neg hc] at h;cases h
    rw [if_pos hc] at h
    obtain ⟨rfl,rfl⟩:=hc
    have hd:decide ((30:Int) < (s.size:Int))=true:=decide_eq_true (by omega)
    have hdn:decide (30 < s.size)=true:=decide_eq_true hlong
    have HLV:=mk0 h
    clear h hlong
    go_wp2_with (first
      | (go_at_call 22;(with_reducible refine (FIN.1 HLV.1 _ (by with_reducible repeat (first|exact HZ.1|apply below_alloc|apply Below.drew))).mono ?_);rintro e w9 ⟨rfl,hb⟩;have HF:=mk0 hb;clear hb))
    go_ret
    exact ⟨rfl,HF.1⟩
  rw [if_neg hlong] at h
  have hd:decide ((30:Int) < (s.size:Int))=false:=decide_eq_false (by omega)
  have hdn:decide (30 < s.size)=false:=decide_eq_false hlong
  obtain ⟨⟨nodes,pok⟩,hp,h4⟩:=Option.bind_eq_some_iff.mp h
  clear h
  dsimp only at h4
  have HP:=mk0 hp
  have HH:=mk0 h4
  clear hp h4 hlong
  go_upto_region 6 with (first
    | (go_at_call 27;(with_reducible refine (bellpullref05_Parse.calls k s nodes pok _ HP.1).mono ?_);rintro e w3 ⟨v,rfl,hS,hb⟩;replace HZ:=mk0 (below_step (by with_reducible repeat (first|exact HZ.1|apply below_alloc|apply Below.drew)) hb);have HS:=mk0 hS;clear hb hS))
  obtain ⟨An,cn,rfl⟩:=Kd.R_slice (Kd.S_R HS.1)
  have HNC:=mk0 (Kd.R_reads' (Kd.S_R HS.1)).2.1
  have HN:=mk0 (Kd.R_reads' (Kd.S_R HS.1)).2.2
  have h:=HH.1
  clear HH HS HP hd hdn
  cases pok with
  | false =>
    rw [if_neg Bool.false_ne_true] at h
    by_cases hc:l=[]∧le=2
    case neg=>rw [if_neg hc] at h;cases h
    rw [if_pos hc] at h
    obtain ⟨rfl,rfl⟩:=hc
    have HLV:=mk0 h
    clear h
    go_wp2_with (first
      | (go_at_call 22;(with_reducible refine (FIN.1 HLV.1 _ (by with_reducible repeat (first|exact HZ.1|apply below_alloc|apply Below.drew))).mono ?_);rintro e w9 ⟨rfl,hb⟩;have HF:=mk0 hb;clear hb))
    go_ret
    exact ⟨rfl,HF.1⟩
  | true =>
    rw [if_pos rfl] at h
    by_cases hnl:nodes.length ≤ 1000000
    case neg=>rw [if_neg hnl] at h;cases h
    rw [if_pos hnl] at h
    obtain ⟨⟨q,qok⟩,hq,h5⟩:=Option.bind_eq_some_iff.mp h
    clear h
    dsimp only at h5
    have hw:wrap64 ((nodes.length:Int) - 1)=(nodes.length:Int) - 1:=by unfold wrap64;omega
    have HQ:Aside0 (∀ W,Below w3.heap.size w3 W → _):=⟨fun W (hW:Below w3.heap.size w3 W)=>bellpullref05_Image.calls k An cn nodes ((nodes.length:Int) - 1) q qok W (Kd.C_below HN.1 hW) HNC.1 hq⟩
    have HH:=mk0 h5
    clear h5 hq hnl
    go_upto_region 9 with (first
      | (go_at_call 30;(with_reducible refine (HQ.1 _ (Below.refl _ _)).mono ?_);rintro e w4 ⟨Bq,cq,rfl,hl,hF,hb⟩;replace HZ:=mk0 (below_step (by with_reducible repeat (first|exact HZ.1|apply below_alloc|apply Below.drew)) hb);have HQC:=mk0 (Kd.F_now hF);have HQL:=mk0 hl;clear hb hl hF))
    have h:=HH.1
    clear HH HQ
    cases qok with
    | true =>
      rw [if_pos rfl] at h
      obtain ⟨b,hb1,h6⟩:=Option.bind_eq_some_iff.mp h
      clear h
      by_cases hc:b=true∧le=0
      case neg=>rw [if_neg hc] at h6;cases h6
      rw [if_pos hc] at h6
      obtain ⟨rfl,rfl⟩:=hc
      have HSM:=mk0 (fun W (hW:Below w2.heap.size w2 W) (hW2:Below w4.heap.size w4 W)=>bellpullref05_Same.calls k A c l Bq cq q true W (Kd.C_below HL.1 hW) HC.1 (Kd.C_below HQC.1 hW2) HQL.1 hb1)
      have HLV:=mk0 h6
      clear h6 hb1
      go_wp2_with (first
        | (go_at_call 31;(with_reducible refine (HSM.1 _ (by with_reducible repeat (first|exact HZ.1|apply below_alloc|apply Below.drew)) (by with_reducible repeat (first|exact Below.refl _ _|apply below_alloc|apply Below.drew))).mono ?_);rintro e w8 ⟨rfl,hb⟩;replace HZ:=mk0 (below_step (by with_reducible repeat (first|exact HZ.1|apply below_alloc|apply Below.drew)) hb);clear hb)
        | (go_at_call 22;(with_reducible refine (FIN.1 HLV.1 _ (by with_reducible repeat (first|exact HZ.1|apply below_alloc|apply Below.drew))).mono ?_);rintro e w9 ⟨rfl,hb⟩;have HF:=mk0 hb;clear hb))
      go_ret
      exact ⟨rfl,HF.1⟩
    | false =>
      rw [if_neg Bool.false_ne_true] at h
      by_cases hc:l=[]∧le=7
      case neg=>rw [if_neg hc] at h;cases h
      rw [if_pos hc] at h
      obtain ⟨rfl,rfl⟩:=hc
      have HLV:=mk0 h
      clear h
      go_wp2_with (first
        | (go_at_call 22;(with_reducible refine (FIN.1 HLV.1 _ (by with_reducible repeat (first|exact HZ.1|apply below_alloc|apply Below.drew))).mono ?_);rintro e w9 ⟨rfl,hb⟩;have HF:=mk0 hb;clear hb))
      go_ret
      exact ⟨rfl,HF.1⟩
end Go.Proofs.Ytkonljiembcdlaa.PC
namespace Go.Proofs.Ytkonljiembcdlaa.PC
open Go.Proofs.MyWords Go.RowKit Go.Proofs.YtkonljiembcdlaaW.PrintWords Go.Proofs.YtkonljiembcdlaaW.PrintLast Go.Proofs.YtkonljiembcdlaaW.PrintMore
attribute [local go_sem] max2_int min2_int max_two min_two max_three min_three max_four min_four   -- for this text's walks alone
set_option linter.unusedVariables false
set_option linter.unusedSimpArgs false
attribute [local go_sem] eqGuard_slices eqlnil23 neqnil23 eqlnil58 neqnil58
end Go.Proofs.Ytkonljiembcdlaa.PC
namespace Go.Proofs.Ytkonljiembcdlaa.PC
open Go.Proofs.MyWords Go.RowKit Go.Proofs.YtkonljiembcdlaaW.PrintWords Go.Proofs.YtkonljiembcdlaaW.PrintLast Go.Proofs.YtkonljiembcdlaaW.PrintMore
attribute [local go_sem] max2_int min2_int max_two min_two max_three min_three max_four min_four   -- for this text's walks alone
set_option linter.unusedVariables false
set_option linter.unusedSimpArgs false
attribute [local go_sem] eqGuard_slices eqlnil23 neqnil23 eqlnil58 neqnil58
end Go.Proofs.Ytkonljiembcdlaa.PC
namespace Go.Proofs.Ytkonljiembcdlaa.PC
open Go.Proofs.MyWords Go.RowKit Go.Proofs.YtkonljiembcdlaaW.PrintWords Go.Proofs.YtkonljiembcdlaaW.PrintLast Go.Proofs.YtkonljiembcdlaaW.PrintMore
attribute [local go_sem] max2_int min2_int max_two min_two max_three min_three max_four min_four   -- for this text's walks alone
set_option linter.unusedVariables false
set_option linter.unusedSimpArgs false
attribute [local go_sem] eqGuard_slices eqlnil23 neqnil23 eqlnil58 neqnil58
end Go.Proofs.Ytkonljiembcdlaa.PC
namespace Go.Proofs.Ytkonljiembcdlaa.PC
open Go.Proofs.MyWords Go.RowKit Go.Proofs.YtkonljiembcdlaaW.PrintWords Go.Proofs.YtkonljiembcdlaaW.PrintLast Go.Proofs.YtkonljiembcdlaaW.PrintMore
attribute [local go_sem] max2_int min2_int max_two min_two max_three min_three max_four min_four   -- for this text's walks alone
set_option linter.unusedVariables false
set_option linter.unusedSimpArgs false
attribute [local go_sem] eqGuard_slices eqlnil23 neqnil23 eqlnil58 neqnil58
end Go.Proofs.Ytkonljiembcdlaa.PC
namespace Go.Proofs.Ytkonljiembcdlaa.PC
open Go.Proofs.MyWords Go.RowKit Go.Proofs.YtkonljiembcdlaaW.PrintWords Go.Proofs.YtkonljiembcdlaaW.PrintLast Go.Proofs.YtkonljiembcdlaaW.PrintMore
set_option linter.unusedVariables false
set_option linter.unusedSimpArgs false
end Go.Proofs.Ytkonljiembcdlaa.PC
namespace Go.Proofs.Ytkonljiembcdlaa.PC
open Go.Proofs.MyWords Go.RowKit Go.Proofs.YtkonljiembcdlaaW.PrintWords Go.Proofs.YtkonljiembcdlaaW.PrintLast Go.Proofs.YtkonljiembcdlaaW.PrintMore
attribute [local go_sem] max2_int min2_int max_two min_two max_three min_three max_four min_four   -- for this text's walks alone
set_option linter.unusedVariables false
set_option linter.unusedSimpArgs false
attribute [local go_sem] eqGuard_slices eqlnil23 neqnil23 eqlnil58 neqnil58
end Go.Proofs.Ytkonljiembcdlaa.PC
namespace Go.Proofs.Ytkonljiembcdlaa.PC
open Go.Proofs.MyWords Go.RowKit Go.Proofs.YtkonljiembcdlaaW.PrintWords Go.Proofs.YtkonljiembcdlaaW.PrintLast Go.Proofs.YtkonljiembcdlaaW.PrintMore
attribute [local go_sem] max2_int min2_int max_two min_two max_three min_three max_four min_four   -- for this text's walks alone
set_option linter.unusedVariables false
set_option linter.unusedSimpArgs false
attribute [local go_sem] eqGuard_slices eqlnil23 neqnil23 eqlnil58 neqnil58
end Go.Proofs.Ytkonljiembcdlaa.PC
namespace Go.Proofs.Ytkonljiembcdlaa.PC
open Go.Proofs.MyWords Go.RowKit Go.Proofs.YtkonljiembcdlaaW.PrintWords Go.Proofs.YtkonljiembcdlaaW.PrintLast Go.Proofs.YtkonljiembcdlaaW.PrintMore
attribute [local go_sem] max2_int min2_int max_two min_two max_three min_three max_four min_four   -- for this text's walks alone
set_option linter.unusedVariables false
set_option linter.unusedSimpArgs false
attribute [local go_sem] eqGuard_slices eqlnil23 neqnil23 eqlnil58 neqnil58
end Go.Proofs.Ytkonljiembcdlaa.PC
namespace Go.Proofs.Ytkonljiembcdlaa.PC
open Go.Proofs.MyWords Go.RowKit Go.Proofs.YtkonljiembcdlaaW.PrintWords Go.Proofs.YtkonljiembcdlaaW.PrintLast Go.Proofs.YtkonljiembcdlaaW.PrintMore
attribute [local go_sem] max2_int min2_int max_two min_two max_three min_three max_four min_four   -- for this text's walks alone
set_option linter.unusedVariables false
set_option linter.unusedSimpArgs false
attribute [local go_sem] eqGuard_slices eqlnil23 neqnil23 eqlnil58 neqnil58
end Go.Proofs.Ytkonljiembcdlaa.PC
/- Small tools for statements of the form 'with enough rounds the answer is r'. -/
set_option linter.unusedVariables false
set_option linter.unusedSimpArgs false
namespace Go.Proofs.Ytkonljiembcdlaa.Pure
open Go.RowKit Go.Proofs.YtkonljiembcdlaaW.PrintWords
theorem wrap_id {x:Int} (h0:-9223372036854775808 ≤ x) (h1:x ≤ 9223372036854775807):wrap64 x=x:=by
  unfold wrap64;omega
section
variable {α β:Type} {g a b:Nat → Option α} {r:α}
theorem Ev.rounds (h:Ev g r):∃ k,g k=some r:=by
  obtain ⟨K,hK⟩:=h
  exact ⟨K,hK K (Nat.le_refl _)⟩
theorem Ev.succ (h:Ev (fun k=>g (k + 1)) r):Ev g r:=Ev.step (fun _=>rfl) h
theorem Ev.pos {c:Prop} [Decidable c] (hc:c) (h:Ev a r):Ev (fun k=>if c then a k else b k) r:=by
  simpa only [if_pos hc] using h
theorem Ev.neg {c:Prop} [Decidable c] (hc:¬ c) (h:Ev b r):Ev (fun k=>if c then a k else b k) r:=by
  simpa only [if_neg hc] using h
theorem Ev.bindc {o:Option β} {f:Nat → β → Option α} {x:β} (ho:o=some x) (h:Ev (fun k=>f k x) r):Ev (fun k=>o.bind (f k)) r:=by
  subst ho;simpa only [Option.bind_some] using h
theorem Ev.const {o:Option α} (h:o=some r):Ev (fun _=>o) r:=⟨0,fun _ _=>h⟩
end
theorem rd_app (pre:List Int) (x:Int) (t:List Int):rd (pre ++ x :: t) (pre.length:Int)=x:=by
  simp [rd,List.getD_eq_getElem?_getD]
end Go.Proofs.Ytkonljiembcdlaa.Pure
/- Sums of periods, in plain Lean. -/
set_option linter.unusedVariables false
namespace Go.Proofs.Ytkonljiembcdlaa.Sem
abbrev Vec:=List Int
def addV:Vec → Vec → Vec
  | x :: v,y :: w=>(x + y) :: addV v w
  | _,_=>[]
def zeroN (d:Nat):Vec:=List.replicate d 0
def nnV (v:Vec):Prop:=∀ x,x ∈ v → 0 ≤ x
instance (v:Vec):Decidable (nnV v):=by unfold nnV;infer_instance
theorem addV_comm:∀ v w:Vec,addV v w=addV w v
  | [],[]=>rfl
  | [],y :: w=>rfl
  | x :: v,[]=>rfl
  | x :: v,y :: w=>by rw [addV,addV,addV_comm v w,Int.add_comm]
theorem addV_assoc:∀ v w u:Vec,addV (addV v w) u=addV v (addV w u)
  | [],w,u=>by simp [addV]
  | x :: v,[],u=>by simp [addV]
  | x :: v,y :: w,[]=>by simp [addV]
  | x :: v,y :: w,z :: u=>by rw [addV,addV,addV,addV,addV_assoc v w u,Int.add_assoc]
theorem addV_len {d:Nat}:∀ {v w:Vec},v.length=d → w.length=d → (addV v w).length=d:=by
  induction d with
  | zero=>intro v w hv hw;rw [List.length_eq_zero_iff.1 hv,List.length_eq_zero_iff.1 hw];rfl
  | succ d ih =>
    intro v w hv hw
    match v,w,hv,hw with
    | x :: v,y :: w,hv,hw=>simp at hv hw;simp [addV,ih hv hw]
theorem zeroN_len (d:Nat):(zeroN d).length=d:=List.length_replicate
theorem zeroN_mem {d:Nat} {x:Int} (h:x ∈ zeroN d):x=0:=List.eq_of_mem_replicate h
theorem zeroN_succ (d:Nat):zeroN (d + 1)=0 :: zeroN d:=rfl
theorem addV_zero:∀ {v:Vec} {d:Nat},v.length=d → addV v (zeroN d)=v
  | [],0,_=>rfl
  | x :: v,d + 1,h=>by
    simp at h
    rw [zeroN_succ,addV,addV_zero h,Int.add_zero]
theorem zero_addV {v:Vec} {d:Nat} (h:v.length=d):addV (zeroN d) v=v:=by rw [addV_comm,addV_zero h]
theorem nn_addV:∀ {v w:Vec},nnV v → nnV w → nnV (addV v w)
  | [],w,_,_=>by intro x hx;simp [addV] at hx
  | x :: v,[],_,_=>by intro x hx;simp [addV] at hx
  | x :: v,y :: w,hv,hw=>by
    intro z hz
    rw [addV] at hz
    rcases List.mem_cons.1 hz with rfl|hz
    · have:=hv x (by simp)
      have:=hw y (by simp)
      omega
    · exact nn_addV (fun a ha=>hv a (by simp [ha])) (fun a ha=>hw a (by simp [ha])) z hz
theorem nn_zeroN (d:Nat):nnV (zeroN d):=fun x hx=>by rw [zeroN_mem hx];decide
inductive Comb (d:Nat) (ps:List Vec):Vec → Prop
  | zero:Comb d ps (zeroN d)
  | add {p w}:p ∈ ps → Comb d ps w → Comb d ps (addV w p)
section
variable {d:Nat} {ps:List Vec}
theorem comb_nil {v:Vec}:Comb d [] v ↔ v=zeroN d :=
  ⟨fun h=>by cases h with
    | zero=>rfl
    | add h1 _=>simp at h1,fun h=>h ▸ .zero⟩
end
end Go.Proofs.Ytkonljiembcdlaa.Sem
/- Differences of vectors, and sums of periods, as the program and the reference take them, in plain Lean. -/
set_option linter.unusedVariables false
set_option linter.unusedSimpArgs false
namespace Go.Proofs.Ytkonljiembcdlaa.Pure
open Go.RowKit Go.Proofs.MyWords Go.Proofs.YtkonljiembcdlaaW.PrintWords Go.Proofs.YtkonljiembcdlaaW.PrintLast Go.Proofs.YtkonljiembcdlaaW.PrintMore Go.Proofs.Ytkonljiembcdlaa.PC Go.Proofs.Ytkonljiembcdlaa.Sem
theorem getD_app {α:Type} (pre:List α) (x:α) (t:List α) (d:α):(pre ++ x :: t).getD ((pre.length:Int)).toNat d=x:=by
  simp [List.getD_eq_getElem?_getD]
theorem rdL1_app (pre:List (List Int)) (x:List Int) (t:List (List Int)):rd_L1 (pre ++ x :: t) (pre.length:Int)=x:=getD_app _ _ _ _
theorem rdL4_app (pre:List (List S60)) (x:List S60) (t:List (List S60)):rd_L4 (pre ++ x :: t) (pre.length:Int)=x:=getD_app _ _ _ _
theorem rdT60_app (pre:List S60) (x:S60) (t:List S60):rd_T60 (pre ++ x :: t) (pre.length:Int)=x:=getD_app _ _ _ _
theorem wsucc {n:Nat} (h:n < 4611686018427387904):wrap64 ((n:Int) + 1)=((n + 1:Nat):Int):=by rw [wrap_id (by omega) (by omega)];omega
theorem len_snoc {α:Type} (pre:List α) (x:α):pre.length + 1=(pre ++ [x]).length:=by simp
theorem app_snoc {α:Type} (pre:List α) (x:α) (t:List α):pre ++ x :: t=(pre ++ [x]) ++ t:=by simp
theorem lt_app {α:Type} (pre:List α) (x:α) (t:List α):(pre.length:Int) < ((pre ++ x :: t).length:Int):=by simp;omega
theorem set_app {α:Type} (pre:List α) (x y:α) (t:List α):(pre ++ x :: t).set ((pre.length:Int)).toNat y=pre ++ y :: t:=by simp
def inB (m:Int) (v:List Int):Prop:=∀ x,x ∈ v → 0 ≤ x∧x ≤ m
theorem inB.nn {m:Int} {v:List Int} (h:inB m v):nnV v:=fun x hx=>(h x hx).1
theorem outside_iff (v:List Int) (m:Int):(v.any fun x=>decide (x < 0) || decide (m < x))=true ↔ ¬ inB m v:=by
  rw [List.any_eq_true]
  constructor
  · rintro ⟨x,hx,h⟩ hi
    have:=hi x hx
    simp at h
    omega
  · intro h
    apply Classical.byContradiction
    intro h2
    refine h (fun x hx=>?_)
    apply Classical.byContradiction
    intro h3
    exact h2 ⟨x,hx,by simp;omega⟩
end Go.Proofs.Ytkonljiembcdlaa.Pure
/- Has, of the program and of the reference, in plain Lean. -/
set_option linter.unusedVariables false
set_option linter.unusedSimpArgs false
namespace Go.Proofs.Ytkonljiembcdlaa.Pure
open Go.RowKit Go.Proofs.MyWords Go.Proofs.YtkonljiembcdlaaW.PrintWords Go.Proofs.YtkonljiembcdlaaW.PrintLast Go.Proofs.YtkonljiembcdlaaW.PrintMore Go.Proofs.Ytkonljiembcdlaa.PC Go.Proofs.Ytkonljiembcdlaa.Sem
def okV (d:Nat) (m:Int) (v:List Int):Prop:=v.length=d∧inB m v
theorem okV.mono {d:Nat} {m n:Int} {v:List Int} (h:okV d m v) (hm:m ≤ n):okV d n v:=⟨h.1,fun x hx=>⟨(h.2 x hx).1,by have:=h.2 x hx;omega⟩⟩
def okP (d:Nat) (ps:List (List Int)):Prop:=∀ p,p ∈ ps → okV d 1000000 p
def InL (d:Nat) (b:List Int) (ps:List (List Int)) (v:List Int):Prop:=∃ w,Comb d ps w∧v=addV b w
def InS (d:Nat) (set:List S60) (v:List Int):Prop:=∃ l,l ∈ set∧InL d l.f0 l.f1 v
def okL (d:Nat) (l:S60):Prop:=okV d 1000000 l.f0∧okP d l.f1∧l.f1.length ≤ 1000000
end Go.Proofs.Ytkonljiembcdlaa.Pure
/- Sums of sets of vectors, and all sums, in plain Lean. -/
set_option linter.unusedVariables false
namespace Go.Proofs.Ytkonljiembcdlaa.Sem
open Go.Proofs.Ytkonljiembcdlaa.PC Go.Proofs.Ytkonljiembcdlaa.Pure
def sumE (a b:S60):S60:=⟨addV a.f0 b.f0,a.f1 ++ b.f1⟩
def sumL (x y:List S60):List S60:=x.flatMap fun a=>y.map (sumE a)
inductive StarV (d:Nat) (P:Vec → Prop):Vec → Prop
  | zero:StarV d P (zeroN d)
  | add {u w}:P u → StarV d P w → StarV d P (addV w u)
def sumB (d:Nat):List S60 → Vec
  | []=>zeroN d
  | a :: t=>addV a.f0 (sumB d t)
def starOf (d:Nat) (ch:List S60):S60:=⟨sumB d ch,ch.flatMap fun a=>a.f0 :: a.f1⟩
section
variable {d:Nat}
theorem sumB_len:∀ {ch:List S60},(∀ a,a ∈ ch → okL d a) → (sumB d ch).length=d∧nnV (sumB d ch)
  | [],_=>⟨zeroN_len d,nn_zeroN d⟩
  | a :: t,h=>by
    have ih:=sumB_len (ch:=t) (fun x hx=>h x (by simp [hx]))
    have ha:=(h a (by simp)).1
    exact ⟨addV_len ha.1 ih.1,nn_addV ha.2.nn ih.2⟩
theorem ins {ch x:List S60} (h:ch.Sublist x) (a:S60) (ha:a ∈ x):a ∈ ch ∨ ∃ c2:List S60,c2.Sublist x∧c2.Perm (a :: ch):=by
  induction h with
  | slnil=>simp at ha
  | @cons c x b hs ih =>
    rcases List.mem_cons.1 ha with rfl|ha
    · exact .inr ⟨a :: c,hs.cons_cons a,List.Perm.refl _⟩
    · rcases ih ha with h|⟨c2,h1,h2⟩
      · exact .inl h
      · exact .inr ⟨c2,h1.cons b,h2⟩
  | @cons_cons c x b hs ih =>
    rcases List.mem_cons.1 ha with rfl|ha
    · exact .inl (by simp)
    · rcases ih ha with h|⟨c2,h1,h2⟩
      · exact .inl (by simp [h])
      · exact .inr ⟨b :: c2,h1.cons_cons b,(h2.cons b).trans (List.Perm.swap a b c)⟩
end
def pickN:Nat → List S60 → List S60
  | _,[]=>[]
  | c,a :: t=>if c % 2=1 then a :: pickN (c / 2) t else pickN (c / 2) t
theorem pick_sub:∀ (x:List S60) (c:Nat),(pickN c x).Sublist x
  | [],c=>List.nil_sublist _
  | a :: t,c=>by
    rw [pickN]
    split
    · exact (pick_sub t (c / 2)).cons_cons a
    · exact (pick_sub t (c / 2)).cons a
theorem pick_zero:∀ x:List S60,pickN 0 x=[]
  | []=>rfl
  | a :: t=>by rw [pickN,if_neg (by decide)];exact pick_zero t
def starL (d:Nat) (x:List S60):List S60:=(List.range (2 ^ x.length)).map fun c=>starOf d (pickN c x)
end Go.Proofs.Ytkonljiembcdlaa.Sem
