import Derived.Test.YtkonljiembcdlaaPCx0
import Derived.Test.YtkonljiembcdlaaMyTiny
import Derived.Test.YtkonljiembcdlaaPCx3
import Derived.Test.YtkonljiembcdlaaPCx4
import Derived.Test.YtkonljiembcdlaaPCx1
import Derived.Test.YtkonljiembcdlaaPCx2
import Derived.Test.YtkonljiembcdlaaPCx5
import Derived.Test.YtkonljiembcdlaaWMore
import Derived.Test.YtkonljiembcdlaaProg
import Derived.WalkKit
import Derived.ProofKit
import Derived.OpenShut
import Derived.Lib.SmallJoins
import Derived.SizedLaws
namespace Go.Proofs.Ytkonljiembcdlaa.PC
open Go.Proofs.MyWords Go.RowKit Go.Proofs.YtkonljiembcdlaaW.PrintWords Go.Proofs.YtkonljiembcdlaaW.PrintLast Go.Proofs.YtkonljiembcdlaaW.PrintMore
attribute [local go_sem] max2_int min2_int max_two min_two max_three min_three max_four min_four   -- for this text's walks alone
set_option linter.unusedVariables false
set_option linter.unusedSimpArgs false
attribute [local go_sem] eqGuard_slices eqlnil23 neqnil23 eqlnil58 neqnil58
def bellpullref05_Plus.l0:Nat → List Int → List Int → List Int → Int → Option (List Int)
  | 0,_,_,_,_=>none
  | k + 1,x0,x1,x5,x6=>if x6 < (x0.length:Int) then (if 0 ≤ x6 then (if x6 < (x1.length:Int) then (if x5.length < 17592186044416 then (bellpullref05_Plus.l0 k x0 x1 (x5 ++ [wrap64 ((rd x0 x6) + (rd x1 x6))]) (wrap64 (x6 + 1))) else (none)) else (none)) else (none)) else (some x5)
def bellpullref05_Plus.f (k:Nat) (l0:List Int) (l1:List Int):Option (List Int):=bellpullref05_Plus.l0 k l0 l1 (([]:List Int)) 0
def bellpullref05_Plus.T5:Bool × List (List Nat × List Nat):=(true,[([],[]),([],[]),([],[]),([1,2],[1,2]),([3],[3]),([],[]),([],[]),([5,6],[5,6]),([7],[7]),([4,8],[4,8]),([9],[9]),([0,10],[0,10]),([11,11,0,1,2,3,4,5,6,7,8,9,10,11],[0,11])])
def bellpullref05_Plus.B5:List Nat:=[0,0,0,6,14,0,0,96,224,510,1022,2047,4095]
theorem bellpullref05_Plus.tab5:rtab .any (opsOf Try.f34 5)=bellpullref05_Plus.T5:=by kernel_rfl
theorem bellpullref05_Plus.bits5:waitsOk bellpullref05_Plus.T5.2 bellpullref05_Plus.B5=true:=by kernel_rfl
set_option maxHeartbeats 8000000 in
set_option maxRecDepth 100000 in
theorem bellpullref05_Plus.calls (k:Nat) (A0:Option Addr) (c0:Nat) (L:List Int) (A1:Option Addr) (c1:Nat) (M:List Int) (r:List Int) (w:World) (b3:Kd.C (Kd.int .i64) w A0 L.length L) (b4:L.length ≤ c0) (b5:Kd.C (Kd.int .i64) w A1 M.length M) (b6:M.length ≤ c1) (h:bellpullref05_Plus.f k L M=some r) :
    Calls Try.prog 34 #[.slice A0 L.length c0,.slice A1 M.length c1] w fun e w'=>∃ b7:Value,e=.returned (b7)∧Kd.R (Kd.int .i64) 3 w' w.heap.size (fun _=>True) b7 r∧Below w.heap.size w w':=by
 have d4:=mk0 b3;have e2:=mk0 b4;clear b3 b4;have d5:=mk0 b5;have e3:=mk0 b6;clear b5 b6;have F:=mk0 (Below.refl w.heap.size w);have H:(bellpullref05_Plus.l0 k L M (([]:List Int)) 0)=some r:=h;clear h;obtain ⟨a4,O⟩:∃ y_:List Int,y_=(([]:List Int)):=⟨_,rfl⟩;(replace H:(bellpullref05_Plus.l0 k L M a4 0)=some r:=by first|(rw [O];with_reducible exact H)|(have X:=(Option.bind_some _ _).symm.trans H;rw [O];with_reducible exact X)|(have X:=(Option.bind_some _ _).symm.trans H;with_reducible exact X)|with_reducible exact H|(rw [O];exact H)|exact H);have a3:=mk0 O;clear O;have H':=mk0 H;clear H;go_enter Try.func34,Try.ntmps34;go_wp2_with (first|((with_reducible refine gate_dst (N:=7) rfl ?_);refine Kd.R_lit (Kd.int .i64) _ 3 ?hg (N:=7) ?hd (xs:=([]:List Int)) (inner:=[]) (ok:=fun _=>True) (okp:=fun _=>True) ?hr ?hp (fun _ hk=>hk) trivial (Below.refl _ _) (Nat.le_refl _) (by simp) ?_;(case hd=>rfl);(case hg=>rfl);(case hr=>first|(go_simp;done)|(go_simp;rfl));(case hp=>exact (Reps.none _ _));intro d6 w3 Y hb hg_ a7;clear hg_ a7;(first|rw [← a3.1] at Y|(simp only [Int.reduceToNat] at Y;rw [← a3.1] at Y));have a8:=mk0 (Kd.R_lower Y (below_size F.1));replace F:=bst F hb;clear hb Y));go_loopg [5,6] k (fun kq v5 v6 w'=>∃ (U:List Int) (B:Int),v6=.int .i64 B∧Aside0 (bellpullref05_Plus.l0 kq L M U B=some r)∧Aside0 (kq ≤ k)∧Aside0 (Kd.R (Kd.int .i64) 3 w' w.heap.size (fun _=>True) v5 U)∧Aside0 (Below w.heap.size w w'));case atStart=>exact ⟨(a4),(0),(by first|rfl|(simp;done)|(simp [*];done)),H',⟨Nat.le_refl _⟩,⟨by exact a8.1⟩,⟨by exact F.1⟩⟩
 case round =>
  (clear H';try clear c1);(try clear p2);try clear c3
  obtain ⟨U,B,rfl,HA,b8,V,F⟩:=hrel;cases gk with
  | zero=>exact absurd HA.1 (by simp [bellpullref05_Plus.l0])
  | succ k1 =>have H:=HA.1;clear HA;simp only [bellpullref05_Plus.l0] at H;by_cases c5:B < (L.length:Int);(· rw [if_pos c5] at H;have c5b0:decide (B < (L.length:Int))=true:=decide_eq_true c5;clear c5;by_cases c6:0 ≤ B;(· rw [if_pos c6] at H;have c6b0:decide (0 ≤ B)=true:=decide_eq_true c6;clear c6;by_cases c7:B < (M.length:Int);(· rw [if_pos c7] at H;have c7b0:decide (B < (M.length:Int))=true:=decide_eq_true c7;clear c7;by_cases c8:U.length < 17592186044416;(· rw [if_pos c8] at H;have c4:=mk0 c8;clear c8;obtain ⟨a5,Q⟩:∃ y_:List Int,y_=(U ++ [wrap64 ((rd L B) + (rd M B))]):=⟨_,rfl⟩;(replace H:(bellpullref05_Plus.l0 k1 L M a5 (wrap64 (B + 1)))=some r:=by first|(rw [Q];with_reducible exact H)|(have X:=(Option.bind_some _ _).symm.trans H;rw [Q];with_reducible exact X)|(have X:=(Option.bind_some _ _).symm.trans H;with_reducible exact X)|with_reducible exact H|(rw [Q];exact H)|exact H);(have a9:=mk0 Q;clear Q;have H':=mk0 H;clear H;try go_wp2);replace V:=rdr V;replace F:=hdr F;have Z:0 ≤ (B:Int):=of_decide_eq_true (by assumption);have a0:B < (L.length:Int):=of_decide_eq_true (by assumption);obtain ⟨b0,c9,I⟩:=Kd.at_int d4.1 B Z a0;have D:=I;cases c9;replace I:=bd_ F I;replace Z:=eq_true Z;replace a0:=eq_true a0;have a1:0 ≤ (B:Int):=of_decide_eq_true (by assumption);have a2:B < (M.length:Int):=of_decide_eq_true (by assumption);obtain ⟨b1,d0,J⟩:=Kd.at_int d5.1 B a1 a2;have E:=J;cases d0;replace J:=bd_ F J;replace a1:=eq_true a1;replace a2:=eq_true a2;refine start_ (n:=13) (S:=fun w'=>w'.cell? (b0.add (B).toNat)=some (.int .i64 (rd L B))∧w'.cell? (b1.add (B).toNat)=some (.int .i64 (rd M B))) (ds:=[]) #[n_,n_,n_,n_,n_,n_,n_,n_,n_,n_,n_,n_,n_] (by kernel_rfl) rfl rfl ⟨(bd_ F D),(bd_ F E)⟩ (fun T=>?_);refine with_tabW bellpullref05_Plus.tab5 bellpullref05_Plus.bits5 (fun G b9=>?_);generalize wr.drew=w9 at V F I J T ⊢;refine pure_ (i:=0) (N:=some 14) (v:=?_) (a':=?_) #[y_,n_,n_,n_,n_,n_,n_,n_,n_,n_,n_,n_,n_] rfl rfl (any_of G.1 (by kernel_rfl)) (fun _ _ _ h=>h) (Or.inl ⟨by rfl,?_⟩) ?_ ?_;rotate_left;(· intro w';go_simp;with_reducible rfl);rotate_left;(· simp only [Act.put,s0_,s1_,s2_,i64_w,i32_w];rfl);refine pure_ (i:=1) (N:=some 15) (v:=?_) (a':=?_) #[y_,y_,n_,n_,n_,n_,n_,n_,n_,n_,n_,n_,n_] rfl rfl (any_of G.1 (by kernel_rfl)) (fun _ _ _ h=>h) (Or.inl ⟨by rfl,?_⟩) ?_ ?_;rotate_left;(· intro w';go_simp;with_reducible rfl);rotate_left;(· simp only [Act.put,s0_,s1_,s2_,i64_w,i32_w];rfl);refine pure_ (i:=2) (N:=some 16) (v:=?_) (a':=?_) #[y_,y_,y_,n_,n_,n_,n_,n_,n_,n_,n_,n_,n_] rfl rfl (any_of G.1 (by kernel_rfl)) (fun _ _ _ h=>h) (Or.inl ⟨by rfl,?_⟩) ?_ ?_;rotate_left;(· intro w';go_simp;with_reducible rfl);rotate_left;(· simp only [Act.put,s0_,s1_,s2_,i64_w,i32_w];rfl);refine pure_ (i:=3) (N:=some 17) (v:=?_) (a':=?_) #[y_,y_,y_,y_,n_,n_,n_,n_,n_,n_,n_,n_,n_] rfl rfl (any_of G.1 (by kernel_rfl)) (fun _ _ _ h=>h) (Or.inl ⟨by rfl,?_⟩) ?_ ?_;rotate_left;(· intro w';go_simp;with_reducible rfl);rotate_left;(· simp only [Act.put,s0_,s1_,s2_,i64_w,i32_w];rfl);refine pure_ (i:=5) (N:=some 19) (v:=?_) (a':=?_) #[y_,y_,y_,y_,n_,y_,n_,n_,n_,n_,n_,n_,n_] rfl rfl (any_of G.1 (by kernel_rfl)) (fun _ _ _ h=>h) (Or.inl ⟨by rfl,?_⟩) ?_ ?_;rotate_left;(· intro w';go_simp;with_reducible rfl);rotate_left;(· simp only [Act.put,s0_,s1_,s2_,i64_w,i32_w];rfl);refine pure_ (i:=6) (N:=some 20) (v:=?_) (a':=?_) #[y_,y_,y_,y_,n_,y_,y_,n_,n_,n_,n_,n_,n_] rfl rfl (any_of G.1 (by kernel_rfl)) (fun _ _ _ h=>h) (Or.inl ⟨by rfl,?_⟩) ?_ ?_;rotate_left;(· intro w';go_simp;with_reducible rfl);rotate_left;(· simp only [Act.put,s0_,s1_,s2_,i64_w,i32_w];rfl);refine pure_ (i:=7) (N:=some 21) (v:=?_) (a':=?_) #[y_,y_,y_,y_,n_,y_,y_,y_,n_,n_,n_,n_,n_] rfl rfl (any_of G.1 (by kernel_rfl)) (fun _ _ _ h=>h) (Or.inl ⟨by rfl,?_⟩) ?_ ?_;rotate_left;(· intro w';go_simp;with_reducible rfl);rotate_left;(· simp only [Act.put,s0_,s1_,s2_,i64_w,i32_w];rfl);refine take_ (i:=4) (N:=some 18) (v:=?_) (a':=?_) #[y_,y_,y_,y_,y_,y_,y_,y_,n_,n_,n_,n_,n_] rfl rfl (take_ofW G.1 b9.1 (by kernel_rfl)) (fun _ _ _ h=>h) (Or.inl ⟨by rfl,?_⟩) T ?_ ?_;rotate_left;(· rintro w' ⟨s0,s1⟩;go_simp;with_reducible rfl);rotate_left;(· simp only [Act.put,s0_,s1_,s2_,i64_w,i32_w];rfl);refine take_ (i:=8) (N:=some 22) (v:=?_) (a':=?_) #[y_,y_,y_,y_,y_,y_,y_,y_,y_,n_,n_,n_,n_] rfl rfl (take_ofW G.1 b9.1 (by kernel_rfl)) (fun _ _ _ h=>h) (Or.inl ⟨by rfl,?_⟩) T ?_ ?_;rotate_left;(· rintro w' ⟨s0,s1⟩;go_simp;with_reducible rfl);rotate_left;(· simp only [Act.put,s0_,s1_,s2_,i64_w,i32_w];rfl);refine pure_ (i:=9) (N:=some 23) (v:=?_) (a':=?_) #[y_,y_,y_,y_,y_,y_,y_,y_,y_,y_,n_,n_,n_] rfl rfl (any_of G.1 (by kernel_rfl)) (fun _ _ _ h=>h) (Or.inl ⟨by rfl,?_⟩) ?_ ?_;rotate_left;(· intro w';go_simp;with_reducible rfl);rotate_left;(· simp only [Act.put,s0_,s1_,s2_,i64_w,i32_w];rfl);refine one_ (i:=10) (N:=some 24) #[y_,y_,y_,y_,y_,y_,y_,y_,y_,y_,y_,n_,n_] rfl rfl (one_of G.1 (by kernel_rfl)) (by decide) (fun K hK=>?_);refine value_ (w1:=?_) (v:=?_) (by rfl) rfl ?_ ?_;rotate_left 2;(· go_simp;constructor;(· rfl);· rfl);refine hK.out _ _ ⟨(World.cell?_alloc_lt _ _ _ (World.block_lt_of_cell? _ _ ((bd_ F D)))).trans ((bd_ F D)),(World.cell?_alloc_lt _ _ _ (World.block_lt_of_cell? _ _ ((bd_ F E)))).trans ((bd_ F E))⟩ (fun T=>?_);clear hK K;refine norm_ (a':=?_) ?_ ?_;rotate_left;(· show Act.put _ (some 24) _=_;simp only [Act.put,s0_,s1_,s2_,i64_w,i32_w];rfl);refine one_ (i:=11) (N:=some 25) #[y_,y_,y_,y_,y_,y_,y_,y_,y_,y_,y_,y_,n_] rfl rfl (one_of G.1 (by kernel_rfl)) (by decide) (fun K hK=>?_);refine Kd.R_append_step (Kd.int .i64) (w0:=w) w.heap.size (by rfl) (.tmp 14) (.tmp 24) 23 3 (.int .i64 0) 8 rfl Try.underlying23 info3 rfl (by decide) (by omega) u5 U (wrap64 ((rd L B) + (rd M B))) [.int .i64 (wrap64 ((rd L B) + (rd M B)))] (fun _=>True) (fun _=>False) rfl rfl ?aP (fun _ hk=>hk.elim) ?aF ?aO ?aB ?aS ?aL ?_;(case aP=>exact rfl);(case aB=>exact F.1);(case aF=>exact (fun _ _=>trivial));(case aO=>exact V.1);(case aS=>exact (below_size F.1));(case aL=>have:=c4.1;omega);intro e1 e4 ho hb hg hat;rw [← a9.1] at ho;have b2:=mk0 (ho);replace F:=mk0 (hb);clear V;clear ho hb hg hat;refine hK.out _ _ ⟨(bd_ F D),(bd_ F E)⟩ (fun T=>?_);clear hK K;refine norm_ (a':=?_) ?_ ?_;rotate_left;(· show Act.put _ (some 25) _=_;simp only [Act.put,s0_,s1_,s2_,i64_w,i32_w];rfl);refine pure_ (i:=12) (N:=some 5) (v:=?_) (a':=?_) #[y_,y_,y_,y_,y_,y_,y_,y_,y_,y_,y_,y_,y_] rfl rfl (any_of G.1 (by kernel_rfl)) (fun _ _ _ h=>h) (Or.inl ⟨by rfl,?_⟩) ?_ ?_;rotate_left;(· intro w';go_simp;with_reducible rfl);rotate_left;(· simp only [Act.put,s0_,s1_,s2_,i64_w,i32_w];rfl);(refine done_ (done_of G.1 (by kernel_rfl)) ?_;try go_wp2);go_roundg k1;(case measure=>have:=b8.1;omega);case rel=>exact ⟨(a5),(wrap64 (B + 1)),(by first|rfl|(simp;done)|(simp [*];done)),H',⟨by have:=b8.1;omega⟩,⟨by exact b2.1⟩,⟨by exact F.1⟩⟩);· rw [if_neg c8] at H;exact absurd H (by simp));· rw [if_neg c7] at H;exact absurd H (by simp));· rw [if_neg c6] at H;exact absurd H (by simp));· rw [if_neg c5] at H;have c5b0:decide (B < (L.length:Int))=false:=decide_eq_false c5;clear c5;obtain rfl:=Option.some.inj H;go_wp2;go_ret;exact ⟨_,by first|rfl|(simp [errW_none,errW_some] <;> rfl)|(simp [*,errW_none,errW_some] <;> rfl),by exact V.1,by exact F.1⟩
end Go.Proofs.Ytkonljiembcdlaa.PC
namespace Go.Proofs.Ytkonljiembcdlaa.PC
open Go.Proofs.MyWords Go.RowKit Go.Proofs.YtkonljiembcdlaaW.PrintWords Go.Proofs.YtkonljiembcdlaaW.PrintLast Go.Proofs.YtkonljiembcdlaaW.PrintMore
set_option linter.unusedVariables false
set_option linter.unusedSimpArgs false
namespace pr
section
variable (el:S60 → S60 → Option S60)
def row (a:S60):List S60 → Option (List S60)
  | []=>some []
  | b :: r=>(el a b).bind fun e=>(row a r).bind fun s=>some (e :: s)
def g (y:List S60):List S60 → Option (List S60)
  | []=>some []
  | a :: r=>(row el a y).bind fun s=>(g y r).bind fun t=>some (s ++ t)
def v (a b:S60):S60:=(el a b).getD z60
theorem row_some {a:S60}:∀ {l r:List S60},row el a l=some r → r=l.map (v el a)∧∀ b ∈ l,el a b=some (v el a b)
  | [],r,h=>⟨(Option.some.inj h).symm,fun b hb=>by simp at hb⟩
  | b :: l,r,h=>by
    obtain ⟨e,he,h⟩:=Option.bind_eq_some_iff.mp h
    obtain ⟨s,hs,h⟩:=Option.bind_eq_some_iff.mp h
    obtain rfl:=Option.some.inj h
    obtain ⟨h1,h2⟩:=row_some hs
    have hv:v el a b=e:=by unfold v;rw [he];rfl
    refine ⟨by rw [List.map_cons,hv,← h1],fun c hc=>?_⟩
    rcases List.mem_cons.mp hc with rfl|hc
    · rw [hv];exact he
    · exact h2 c hc
theorem g_some {y:List S60}:∀ {l r:List S60},g el y l=some r → r=l.flatMap (fun a=>y.map (v el a))∧∀ a ∈ l,∀ b ∈ y,el a b=some (v el a b)
  | [],r,h=>⟨(Option.some.inj h).symm,fun b hb=>by simp at hb⟩
  | a :: l,r,h=>by
    obtain ⟨s,hs,h⟩:=Option.bind_eq_some_iff.mp h
    obtain ⟨t,ht,h⟩:=Option.bind_eq_some_iff.mp h
    obtain rfl:=Option.some.inj h
    obtain ⟨h1,h2⟩:=row_some el hs
    obtain ⟨h3,h4⟩:=g_some ht
    refine ⟨by rw [List.flatMap_cons,← h1,← h3],fun c hc=>?_⟩
    rcases List.mem_cons.mp hc with rfl|hc
    · exact h2
    · exact h4 c hc
def at' (x y:List S60) (i j:Nat):List S60:=(x.take i).flatMap (fun a=>y.map (v el a)) ++ (y.take j).map (v el (x.getD i z60))
theorem at_row (x y:List S60) (i:Nat) (hi:i < x.length):at' el x y i y.length=at' el x y (i + 1) 0:=by
  unfold at'
  rw [List.take_length,List.take_add_one,List.flatMap_append,List.getD_eq_getElem?_getD,List.getElem?_eq_getElem hi]
  simp
theorem at_succ (x y:List S60) (i j:Nat) (hj:j < y.length):at' el x y i (j + 1)=at' el x y i j ++ [v el (x.getD i z60) (y.getD j z60)]:=by
  unfold at'
  rw [List.take_add_one,List.map_append,← List.append_assoc,List.getD_eq_getElem?_getD (l:=y),List.getElem?_eq_getElem hj]
  simp
theorem at_len (x y:List S60) (i j:Nat) (hx:x.length ≤ 5000) (hy:y.length ≤ 5000):(at' el x y i j).length ≤ 25005000:=by
  unfold at'
  have h1:∀ l:List S60,(l.flatMap (fun a=>y.map (v el a))).length=l.length * y.length:=fun l=>by
    induction l with
    | nil=>simp
    | cons a l ih=>rw [List.flatMap_cons,List.length_append,ih,List.length_map,List.length_cons,Nat.succ_mul];omega
  rw [List.length_append,h1,List.length_map,List.length_take,List.length_take]
  have:min i x.length * y.length ≤ 5000 * 5000:=Nat.mul_le_mul (by omega) hy
  omega
end
end pr
def refSum.el (k:Nat) (a b:S60):Option S60:=(bellpullref05_Plus.f k a.f0 b.f0).bind fun p=>if a.f1.length ≤ 1000000∧b.f1.length ≤ 1000000 then some ⟨p,a.f1 ++ b.f1⟩ else none
def bellpullref05_Sum.f (k:Nat) (x y:List S60):Option (List S60):=if x.length ≤ 5000∧y.length ≤ 5000 then pr.g (refSum.el k) y x else none
theorem at_F60 {w:World} {ok:Nat → Prop} {A:Option Addr} {n:Nat} {xs:List S60} (h:Kd.F k60 w ok A n xs) (i:Int) (h0:0 ≤ i) (h1:i < n):∃ ad A0 c0 A1 c1,A=some ad∧w.cell? (ad.add (i.toNat * 2))=some (.slice A0 (rd_T60 xs i).f0.length c0)∧w.cell? ⟨(ad.add (i.toNat * 2)).block,(ad.add (i.toNat * 2)).off + 1,none⟩=some (.slice A1 (rd_T60 xs i).f1.length c1)∧(rd_T60 xs i).f0.length ≤ c0∧Kd.F (Kd.int .i64) w ok A0 (rd_T60 xs i).f0.length (rd_T60 xs i).f0∧(rd_T60 xs i).f1.length ≤ c1∧Kd.F (Kd.slice 3 (Kd.int .i64)) w ok A1 (rd_T60 xs i).f1.length (rd_T60 xs i).f1:=by
  obtain ⟨ad,c,e,_,hK,hc0,_⟩:=Kd.F_get h z60 i h0 h1
  have hc:∀ j u,c[j]?=some u → w.cell? (ad.add (i.toNat * 2 + j))=some u:=hc0
  obtain ⟨A0,c0,A1,c1,rfl,l0,g0,l1,g1⟩:=k60_openF hK
  exact ⟨ad,A0,c0,A1,c1,e,hc 0 _ rfl,by rw [← add_field _ _ 1 (by omega)];exact hc 1 _ rfl,l0,g0,l1,g1⟩
theorem N_empty {α:Type} (d:Kd α) {e base g:Nat} {ok:Nat → Prop} {W:World} (h:W.heap[g]?=some (.cells #[] e (0,0))) (hb:base ≤ g) (ho:ok g):Kd.N d e W base ok (.slice (some ⟨g,0,none⟩) 0 0) []:=by
  refine Kd.R_N ⟨fun k hk=>?_,[],⟨by simp,.inr ⟨g,0,#[],rfl,hb,h,?_⟩⟩,Reps.none _ _⟩
  · have:g=k:=by simpa [Value.ownBlock] using hk
    rw [← this];exact ho
  · simp
section
variable {ops:Array Oper} {o:Oper} {a:Act} {w W0 W:World} {Q:Exit → Act → World → Prop} {Kc:Act → World → Prop} {J:Nat → Prop} {s z:Operand}
theorem rows_step {v:Value} {l m L:List (List Int)} {Ab:Option Addr} {cb:Nat}
    (ho:o.op=.call { callee:=.builtin .append,args:=#[s,z],argTypes:=#[58,58] }) (hw:Region.wanted o (yielded ops a.tmps)=true) (hs:a.eval s=v) (hx:a.eval z=.slice Ab m.length cb)
    (HO:Kd.N (Kd.slice 3 (Kd.int .i64)) 23 W W0.heap.size (fun k_=>(J k_∧k_ < w.heap.size) ∨ W0.heap.size ≤ k_) v l) (hF:Kd.F (Kd.slice 3 (Kd.int .i64)) w (fun k_=>J k_∧k_ < w.heap.size) Ab m.length m)
    (hB:Below w.heap.size w W0) (hbw:Below W0.heap.size W0 W) (hl:l.length ≤ 1000000) (hm:m.length ≤ 1000000) (hL:L=l ++ m)
    (h:∀ A1 c1 w1,Kd.N (Kd.slice 3 (Kd.int .i64)) 23 w1 W0.heap.size (fun k_=>(J k_∧k_ < w.heap.size) ∨ W0.heap.size ≤ k_) (.slice A1 L.length c1) L → Below W0.heap.size W0 w1 → (∀ base ok u xs,Kd.R (Kd.int .i64) 3 W base ok u xs → Kd.R (Kd.int .i64) 3 w1 base ok u xs) → Kc (a.put o.dst (.slice A1 L.length c1)) w1) :
    if Region.wanted o (yielded ops a.tmps)=true then Oper.wp Try.prog o a W Kc Q else Kc (a.put o.dst undef) W:=by
  have h1:=hB.size
  have h2:=hbw.size
  refine Kd.N_append_rows_step (Kd.slice 3 (Kd.int .i64)) (w0:=W0) W0.heap.size hw s z 58 23 (.slice none 0 0) 24 ho Try.underlying58 info23 rfl (by decide) (by omega) v l m Ab m.length cb (fun k_=>(J k_∧k_ < w.heap.size) ∨ W0.heap.size ≤ k_) (fun k_=>J k_∧k_ < w.heap.size) hs hx HO (Kd.F_below hF (below_step hB hbw)) (fun k_ hk=>⟨.inl hk,fun he=>by have:=Kd.N_base HO k_ he.symm;omega⟩) (fun k_ hk=>.inr (by omega)) hbw (by omega) (by omega) ?_
  intro v1 w1 hN1 hb1 hg1 _
  rw [← hL] at hN1
  obtain ⟨A1,c1,rfl⟩:=Kd.N_slice hN1
  exact h A1 c1 w1 hN1 hb1 (fun base ok u xs hR=>Kd.R_over' hR (Kd.N_typed HO) (by decide) hg1)
theorem out_step {v:Value} {l:List S60} {p:List Int} {q:List (List Int)} {Ap Aq:Option Addr} {cp cq:Nat}
    (ho:o.op=.call { callee:=.builtin .append,args:=#[s,z],argTypes:=#[22,22] }) (hw:Region.wanted o (yielded ops a.tmps)=true) (hs:a.eval s=v) (hx:a.eval z=.slice (some ⟨W.heap.size,0,none⟩) 1 1)
    (HO:Kd.N k60 60 W0 w.heap.size (fun k_=>J k_ ∨ w.heap.size ≤ k_) v l) (hB:Below w.heap.size w W0)
    (hcp:p.length ≤ cp) (hP:Kd.F (Kd.int .i64) W (fun k_=>(J k_∧k_ < w.heap.size) ∨ W0.heap.size ≤ k_) Ap p.length p) (hcq:q.length ≤ cq) (hD:Kd.F (Kd.slice 3 (Kd.int .i64)) W (fun k_=>(J k_∧k_ < w.heap.size) ∨ W0.heap.size ≤ k_) Aq q.length q)
    (hbw:Below W0.heap.size W0 W) (hl:l.length ≤ 25005000)
    (h:∀ v1 w1,Kd.N k60 60 w1 w.heap.size (fun k_=>J k_ ∨ w.heap.size ≤ k_) v1 (l ++ [⟨p,q⟩]) → Below w.heap.size w w1 → W.grownBy w1 v.ownBlock → Kc (a.put o.dst v1) w1) :
    if Region.wanted o (yielded ops a.tmps)=true then Oper.wp Try.prog o a (W.alloc (.cells #[.slice Ap p.length cp,.slice Aq q.length cq] 60)) Kc Q else Kc (a.put o.dst undef) (W.alloc (.cells #[.slice Ap p.length cp,.slice Aq q.length cq] 60)):=by
  have h1:=hB.size
  have h2:=hbw.size
  refine Kd.N_append_step k60 (w0:=w) (W:=W) w.heap.size hw s z 22 60 (.agg #[.slice none 0 0,.slice none 0 0]) 48 ho Try.underlying22 info60 rfl (by decide) (by omega) v l (⟨p,q⟩:S60) [.slice Ap p.length cp,.slice Aq q.length cq] (fun k_=>J k_ ∨ w.heap.size ≤ k_) (fun k_=>(J k_∧k_ < w.heap.size) ∨ W0.heap.size ≤ k_) hs hx
    (k60_mkF _ _ (⟨p,q⟩:S60) hcp hP hcq hD)
    (fun k_ hk=>⟨hk.elim (fun h=>.inl h.1) (fun h=>.inr (by omega)),fun he=>by have:=Kd.N_lt HO k_ he.symm;have:=Kd.N_base HO k_ he.symm;omega⟩) (fun k_ hk=>.inr (by omega)) (Kd.N_below HO hbw) (below_step hB hbw) (by omega) (by omega) ?_
  intro v1 w1 hN1 hb1 hg1 _
  exact h v1 w1 hN1 hb1 hg1
end
set_option maxHeartbeats 4000000 in
set_option maxRecDepth 100000 in
theorem bellpullref05_Sum.calls (k:Nat) (J:Nat → Prop) (A0:Option Addr) (c0:Nat) (x:List S60) (A1:Option Addr) (c1:Nat) (y:List S60) (r:List S60) (w:World) (hx:Kd.F k60 w J A0 x.length x) (hcx:x.length ≤ c0) (hy:Kd.F k60 w J A1 y.length y) (hcy:y.length ≤ c1) (h:bellpullref05_Sum.f k x y=some r) :
    Calls Try.prog 41 #[.slice A0 x.length c0,.slice A1 y.length c1] w fun e w'=>∃ (A:Option Addr) (c:Nat),e=.returned (.slice A r.length c)∧r.length ≤ c∧Kd.F k60 w' (fun k_=>J k_ ∨ w.heap.size ≤ k_) A r.length r∧Below w.heap.size w w':=by
  unfold bellpullref05_Sum.f at h
  split at h
  case isFalse=>cases h
  rename_i hlen
  obtain ⟨hr,hel⟩:=pr.g_some _ h
  have HR:=mk0 hr
  have HEL:=mk0 hel
  have HLEN:=mk0 hlen
  have HXF:=mk0 hx
  have HYF:=mk0 hy
  have HXC:=mk0 hcx
  have HYC:=mk0 hcy
  clear h hr hel hlen hx hy hcx hcy
  go_enter Try.func41,Try.ntmps41
  go_upto_region 2 with (fail)
  have HO:Aside0 (Kd.N k60 60 (w.alloc (.cells #[] 60)) w.heap.size (fun k_=>J k_ ∨ w.heap.size ≤ k_) (.slice (some ⟨w.heap.size,0,none⟩) 0 0) (pr.at' (refSum.el k) x y 0 0)):=⟨N_empty k60 (blk_new _ _) (Nat.le_refl _) (.inr (Nat.le_refl _))⟩
  have HB:=mk0 (below_alloc (Below.refl w.heap.size w) (.cells #[] 60))
  go_wp2
  go_loopw [5,6] (fun v5 v6 wq=>∃ i:Nat,v6=.int .i64 (i:Int)∧Aside0 (i ≤ x.length)∧Aside0 (Kd.N k60 60 wq w.heap.size (fun k_=>J k_ ∨ w.heap.size ≤ k_) v5 (pr.at' (refSum.el k) x y i 0))∧Aside0 (Below w.heap.size w wq)) (fun _ v6 _=>x.length - (intOf v6).toNat)
  case atStart=>exact ⟨0,rfl,⟨Nat.zero_le _⟩,HO,HB⟩
  case round =>
    clear HO HB
    obtain ⟨i,rfl,HI,HO,HB⟩:=hrel
    by_cases hlt:i < x.length
    · have hd:decide ((i:Int) < (x.length:Int))=true:=decide_eq_true (by omega)
      have hdn:decide (i < x.length)=true:=decide_eq_true (by omega)
      have HLT:=mk0 hlt
      have HW:Aside0 (wrap64 ((i:Int) + 1)=((i + 1:Nat):Int)):=⟨by have:=HLEN.1;unfold wrap64;omega⟩
      clear hlt
      go_wp2
      go_loopw [5,7] (fun v5 v7 wq=>∃ j:Nat,v7=.int .i64 (j:Int)∧Aside0 (j ≤ y.length)∧Aside0 (Kd.N k60 60 wq w.heap.size (fun k_=>J k_ ∨ w.heap.size ≤ k_) v5 (pr.at' (refSum.el k) x y i j))∧Aside0 (Below w.heap.size w wq)) (fun _ v7 _=>y.length - (intOf v7).toNat)
      case atStart=>exact ⟨0,rfl,⟨Nat.zero_le _⟩,HO,HB⟩
      case round =>
        clear HO HB
        obtain ⟨j,rfl,HJ,HO,HB⟩:=hrel
        by_cases hjt:j < y.length
        · have hd2:decide ((j:Int) < (y.length:Int))=true:=decide_eq_true (by omega)
          have hd2n:decide (j < y.length)=true:=decide_eq_true (by omega)
          have HJT:=mk0 hjt
          obtain ⟨ax,Aa,ca,Ab,cb,e,hx0,hx1,hlca,hFa,hlcb,hFb⟩:=at_F60 HXF.1 (i:Int) (by omega) (by have:=HLT.1;omega)
          cases e
          obtain ⟨ay,Ac,cc,Ad,cd,e,hy0,hy1,hlcc,hFc,hlcd,hFd⟩:=at_F60 HYF.1 (j:Int) (by omega) (by omega)
          cases e
          obtain ⟨a,ha⟩:∃ a,a=x.getD i z60:=⟨_,rfl⟩
          have hra:rd_T60 x (i:Int)=a:=by rw [ha];rfl
          obtain ⟨b,hb⟩:∃ b,b=y.getD j z60:=⟨_,rfl⟩
          have hrb:rd_T60 y (j:Int)=b:=by rw [hb];rfl
          rw [hra] at hx0 hx1 hlca hFa hlcb hFb
          rw [hrb] at hy0 hy1 hlcc hFc hlcd hFd
          simp only [Int.toNat_natCast] at hx0 hx1 hy0 hy1
          have hE:=HEL.1 a (by rw [ha];exact mem_getD HLT.1) b (by rw [hb];exact mem_getD hjt)
          unfold refSum.el at hE
          obtain ⟨p,hp,hE⟩:=Option.bind_eq_some_iff.mp hE
          by_cases hll:a.f1.length ≤ 1000000∧b.f1.length ≤ 1000000
          case neg=>rw [if_neg hll] at hE;cases hE
          rw [if_pos hll] at hE
          obtain ⟨q,hq⟩:∃ q,q=a.f1 ++ b.f1:=⟨_,rfl⟩
          rw [← hq] at hE
          have HE:Aside0 (pr.at' (refSum.el k) x y i (j + 1)=pr.at' (refSum.el k) x y i j ++ [⟨p,q⟩]):=⟨by rw [pr.at_succ _ x y i j hjt,← ha,← hb];exact congrArg (fun z=>_ ++ [z]) (Option.some.inj hE).symm⟩
          have HWj:Aside0 (wrap64 ((j:Int) + 1)=((j + 1:Nat):Int)):=⟨by have:=HLEN.1;unfold wrap64;omega⟩
          have HPC:Aside0 (∀ W:World,Below wr.heap.size wr W → Calls Try.prog 34 #[.slice Aa a.f0.length ca,.slice Ac b.f0.length cc] W fun e w'=>∃ (Ap:Option Addr) (cp:Nat),e=.returned (.slice Ap p.length cp)∧Kd.R (Kd.int .i64) 3 w' wr.heap.size (fun _=>True) (.slice Ap p.length cp) p∧Below W.heap.size W w'):=⟨fun W hW=>by
            have hBW:=below_step HB.1 hW
            refine (bellpullref05_Plus.calls k Aa ca a.f0 Ac cc b.f0 p W (Kd.C_below (Kd.F_now hFa) hBW) hlca (Kd.C_below (Kd.F_now hFc) hBW) hlcc hp).mono ?_
            rintro e w' ⟨v,rfl,hR,hb⟩
            obtain ⟨Ap,cp,rfl⟩:=Kd.R_slice hR
            exact ⟨Ap,cp,rfl,Kd.R_lower hR hW.size,hb⟩⟩
          have HS:Aside0 (∀ w',Below w.heap.size w w' → w'.cell? (ax.add (i * 2))=some (.slice Aa a.f0.length ca)∧w'.cell? ⟨(ax.add (i * 2)).block,(ax.add (i * 2)).off + 1,none⟩=some (.slice Ab a.f1.length cb)∧w'.cell? (ay.add (j * 2))=some (.slice Ac b.f0.length cc)∧w'.cell? ⟨(ay.add (j * 2)).block,(ay.add (j * 2)).off + 1,none⟩=some (.slice Ad b.f1.length cd)):=⟨fun w' hb=>⟨pw_cell_below hb hx0,pw_cell_below hb hx1,pw_cell_below hb hy0,pw_cell_below hb hy1⟩⟩
          have HFB:=mk0 (Kd.F_bound hFb)
          have HFD:=mk0 (Kd.F_bound hFd)
          have HLA:=mk0 hll.1
          have HLB:=mk0 hll.2
          have HQ:=mk0 hq
          have q0:((0:Int) ≤ (i:Int))=True:=eq_true (by omega)
          have q1:((i:Int) < (x.length:Int))=True:=eq_true (by have:=HLT.1;omega)
          have q2:((0:Int) ≤ (j:Int))=True:=eq_true (by omega)
          have q3:((j:Int) < (y.length:Int))=True:=eq_true (by omega)
          have q4:(i < x.length)=True:=eq_true HLT.1
          have q5:(j < y.length)=True:=eq_true hjt
          have HX:=mk0 (Below.refl wr.heap.size wr)
          clear hE hp hq hll hx0 hx1 hlca hFa hlcb hFb hy0 hy1 hlcc hFc hlcd hFd ha hra hb hrb hjt
          go_upto_region 8 with (fail)
          go_region_held3 (fun w'=>w'.cell? (ax.add (i * 2))=some (.slice Aa a.f0.length ca)∧w'.cell? ⟨(ax.add (i * 2)).block,(ax.add (i * 2)).off + 1,none⟩=some (.slice Ab a.f1.length cb)∧w'.cell? (ay.add (j * 2))=some (.slice Ac b.f0.length cc)∧w'.cell? ⟨(ay.add (j * 2)).block,(ay.add (j * 2)).off + 1,none⟩=some (.slice Ad b.f1.length cd))
            (first|exact HS.1 _ HZ.1|exact HS.1 _ (below_step HB.1 (by with_reducible repeat (first|exact HX.1|apply below_alloc|apply Below.drew))))
            (first
              | (go_at_call 34;(with_reducible refine (HPC.1 _ ?b).mono ?_);(case b=>with_reducible repeat (first|exact HX.1|apply below_alloc|apply Below.drew));rintro e wp ⟨Ap,cp,rfl,hRp,hb⟩;replace HX:=mk0 (below_step (by with_reducible repeat (first|exact HX.1|apply below_alloc|apply Below.drew)) hb);have HRP:=mk0 hRp;(first|have HEB:=mk0 (blk_below (o:=.cells #[] 23 (0,0)) (by first|with_reducible exact blk_new _ _|with_reducible exact new_drew _ _) hb)|skip);clear hb hRp)
              | (refine rows_step (W0:=wr) (w:=w) (J:=J) (l:=[]) (m:=a.f1) (L:=a.f1) (by rfl) (by rfl) (by rfl) (by rfl) (N_empty _ ?eb ?le (.inr ?le2)) HFB.1 HB.1 ?b (Nat.zero_le _) HLA.1 rfl ?_;(case eb=>first|with_reducible exact HEB.1|with_reducible exact blk_new _ _|with_reducible exact new_drew _ _);(case le=>first|exact Nat.le_refl _|exact HX.1.size);(case le2=>first|exact Nat.le_refl _|exact HX.1.size);(case b=>with_reducible repeat (first|exact HX.1|apply below_alloc|apply Below.drew));intro A7 c7 w7 hN hb hRt;replace HRP:=mk0 (hRt wr.heap.size (fun _=>True) (.slice Ap p.length cp) p (by with_reducible repeat (first|exact HRP.1|refine Kd.R_alloc ?_ _|refine Kd.R_drew ?_)));have HN7:=mk0 hN;replace HX:=mk0 hb;clear hN hb hRt)
              | (refine rows_step (v:=.slice A7 a.f1.length c7) (W0:=wr) (w:=w) (J:=J) (l:=a.f1) (m:=b.f1) (L:=q) (by rfl) (by rfl) (by rfl) (by rfl) ?n HFD.1 HB.1 ?b HLA.1 HLB.1 HQ.1 ?_;(case n=>with_reducible repeat (first|exact HN7.1|refine N_al ?_ _|refine Kd.N_drew ?_));(case b=>with_reducible repeat (first|exact HX.1|apply below_alloc|apply Below.drew));intro A8 c8 w8 hN hb hRt;replace HRP:=mk0 (hRt wr.heap.size (fun _=>True) (.slice Ap p.length cp) p (by with_reducible repeat (first|exact HRP.1|refine Kd.R_alloc ?_ _|refine Kd.R_drew ?_)));have HN8:=mk0 hN;replace HX:=mk0 hb;clear hN hb hRt)
              | (refine out_step (by rfl) (by rfl) (by rfl) (by rfl) HO.1 HB.1 (Kd.R_reads' HRP.1).2.1 (Kd.F_mono (Kd.R_F (Kd.R_bound HRP.1)) (fun k_ hk=>.inr hk.2.1)) (Kd.N_reads' HN8.1).2.1 (Kd.N_F HN8.1) HX.1 (pr.at_len _ x y i j HLEN.1.1 HLEN.1.2) ?_;intro v9 w9 hN9 hb9 _;have HZ:=mk0 hb9)
              | fail)
          all_goals
            go_wp2
            go_roundw
            case rel=>exact ⟨j + 1,congrArg _ HWj.1,⟨HJT.1⟩,⟨by rw [HE.1];exact hN9⟩,⟨hb9⟩⟩
            case measure=>rw [HWj.1];simp only [intOf];have:=HJT.1;omega
        · have hd2:decide ((j:Int) < (y.length:Int))=false:=decide_eq_false (by omega)
          have hd2n:decide (j < y.length)=false:=decide_eq_false (by omega)
          have hj:j=y.length:=by have:=HJ.1;omega
          subst hj
          clear hjt
          go_wp2
          go_roundw
          case rel=>exact ⟨i + 1,congrArg _ HW.1,⟨HLT.1⟩,⟨by rw [← pr.at_row _ x y i HLT.1];exact HO.1⟩,HB⟩
          case measure=>rw [HW.1];simp only [intOf];have:=HLT.1;omega
    · have hd:decide ((i:Int) < (x.length:Int))=false:=decide_eq_false (by omega)
      have hdn:decide (i < x.length)=false:=decide_eq_false (by omega)
      have hi:i=x.length:=by have:=HI.1;omega
      subst hi
      clear hlt
      go_wp2
      go_ret
      have hN:=HO.1
      have e:pr.at' (refSum.el k) x y x.length 0=r:=by rw [HR.1];unfold pr.at';rw [List.take_length];simp
      rw [e] at hN
      obtain ⟨A,c,rfl⟩:=Kd.N_slice hN
      exact ⟨A,c,rfl,(Kd.N_reads' hN).2.1,Kd.N_F hN,HB.1⟩
end Go.Proofs.Ytkonljiembcdlaa.PC
namespace Go.Proofs.Ytkonljiembcdlaa.PC
open Go.Proofs.MyWords Go.RowKit Go.Proofs.YtkonljiembcdlaaW.PrintWords Go.Proofs.YtkonljiembcdlaaW.PrintLast Go.Proofs.YtkonljiembcdlaaW.PrintMore
attribute [local go_sem] min_two
set_option linter.unusedVariables false
set_option linter.unusedSimpArgs false
def refStar.ld0:Op:=.load 23 (.tmp 35)
def refStar.ld1:Op:=.load 58 (.tmp 45)
attribute [local go_sem] refStar.ld0 refStar.ld1
def refStar.inn (k c:Nat):List S60 → Nat → S60 → Option S60
  | [],_,l=>some l
  | a :: t,i,l=>if c / 2 ^ i % 2=1 then (bellpullref05_Plus.f k l.f0 a.f0).bind fun b=>if l.f1.length ≤ 100000∧a.f1.length ≤ 100000 then refStar.inn k c t (i + 1) ⟨b,l.f1 ++ (a.f0 :: a.f1)⟩ else none else refStar.inn k c t (i + 1) l
def refStar.out (k:Nat) (d:Int) (x:List S60):Nat → Nat → Option (List S60)
  | 0,_=>some []
  | n + 1,c=>(refStar.inn k c x 0 ⟨List.replicate d.toNat 0,[]⟩).bind fun e=>(refStar.out k d x n (c + 1)).bind fun s=>some (e :: s)
def refStar.m (x:List S60):Nat:=2 ^ min x.length 4
def bellpullref05_Star.f (k:Nat) (d:Int) (x:List S60):Option (List S60):=if 0 ≤ d∧d ≤ 100∧x.length ≤ 60 then (refStar.out k d x (refStar.m x - 1) 1).bind fun s=>some (⟨List.replicate d.toNat 0,[]⟩ :: s) else none
theorem refStar.m_le (x:List S60):1 ≤ refStar.m x∧refStar.m x ≤ 16:=by
  unfold refStar.m
  have:min x.length 4 ≤ 4:=Nat.min_le_right _ _
  exact ⟨Nat.pos_of_ne_zero (by simp),Nat.pow_le_pow_right (by decide) this⟩
theorem refStar.shl (x:List S60):IntKind.i64.wrap (1 * 2 ^ (min x.length 4))=(refStar.m x:Int):=by
  have:=refStar.m_le x
  unfold refStar.m at this ⊢
  rw [i64_w]
  unfold wrap64
  push_cast
  have h:((2:Int) ^ min x.length 4)=((2 ^ min x.length 4:Nat):Int):=by push_cast;rfl
  rw [h]
  omega
theorem refStar.bit:∀ c:Nat,c < 16 → Go.bits .and .i64 (c:Int) 1=((c % 2:Nat):Int):=by decide +kernel
theorem refStar.bits {c i:Nat} (hc:c < 16) (hi:i ≤ 60):Go.bits .and .i64 ((c:Int) / 2 ^ min i 64) 1=((c / 2 ^ i % 2:Nat):Int):=by
  rw [show min i 64=i by omega]
  have h:((c:Int) / 2 ^ i)=((c / 2 ^ i:Nat):Int):=by push_cast;rfl
  rw [h]
  exact refStar.bit _ (Nat.lt_of_le_of_lt (Nat.div_le_self _ _) hc)
theorem made_int (n:Nat):(madeCells #[.int .i64 0] n).toList=(List.replicate n (0:Int)).map (Value.int .i64):=by
  apply List.ext_getElem
  · simp [size_madeCells]
  · intro i h1 h2
    simp [madeCells,Nat.mod_one]
theorem F_zeros {W:World} {g n:Nat} (h:W.heap[g]?=some (.cells (madeCells #[.int .i64 0] n) 3 (0,0))) (hn:n ≤ 100):Kd.F (Kd.int .i64) W (fun k_=>k_=g) (some ⟨g,0,none⟩) (List.replicate n (0:Int)).length (List.replicate n 0):=fun W' hW=>C_box ((hW g rfl (blk_lt h)).trans h) (made_int n) (by simpa using hn)
section
variable {ops:Array Oper} {o:Oper} {a:Act} {W0 W:World} {Q:Exit → Act → World → Prop} {Kc:Act → World → Prop} {ok okp:Nat → Prop} {s z:Operand}
theorem rows_stepG {v:Value} {l m L:List (List Int)} {Ab:Option Addr} {cb:Nat}
    (ho:o.op=.call { callee:=.builtin .append,args:=#[s,z],argTypes:=#[58,58] }) (hw:Region.wanted o (yielded ops a.tmps)=true) (hs:a.eval s=v) (hx:a.eval z=.slice Ab m.length cb)
    (HO:Kd.N (Kd.slice 3 (Kd.int .i64)) 23 W W0.heap.size ok v l) (hF:Kd.F (Kd.slice 3 (Kd.int .i64)) W okp Ab m.length m) (hok:∀ k_,okp k_ → ok k_∧some k_ ≠ v.ownBlock) (hfr:∀ k_,W0.heap.size ≤ k_ → ok k_)
    (hbw:Below W0.heap.size W0 W) (hl:l.length ≤ 1000000) (hm:m.length ≤ 1000000) (hL:L=l ++ m)
    (h:∀ A1 c1 w1,Kd.N (Kd.slice 3 (Kd.int .i64)) 23 w1 W0.heap.size ok (.slice A1 L.length c1) L → Below W0.heap.size W0 w1 → W.grownBy w1 v.ownBlock → ((Value.slice A1 L.length c1).ownBlock=v.ownBlock ∨ ∃ b,(Value.slice A1 L.length c1).ownBlock=some b∧W.heap.size ≤ b) → Kc (a.put o.dst (.slice A1 L.length c1)) w1) :
    if Region.wanted o (yielded ops a.tmps)=true then Oper.wp Try.prog o a W Kc Q else Kc (a.put o.dst undef) W:=by
  have h2:=hbw.size
  refine Kd.N_append_rows_step (Kd.slice 3 (Kd.int .i64)) (w0:=W0) W0.heap.size hw s z 58 23 (.slice none 0 0) 24 ho Try.underlying58 info23 rfl (by decide) (by omega) v l m Ab m.length cb ok okp hs hx HO hF hok (fun k_ hk=>hfr k_ (by omega)) hbw h2 (by omega) ?_
  intro v1 w1 hN1 hb1 hg1 hat
  rw [← hL] at hN1
  obtain ⟨A1,c1,rfl⟩:=Kd.N_slice hN1
  exact h A1 c1 w1 hN1 hb1 hg1 hat
theorem rows_stepE {m:List (List Int)} {Ab:Option Addr} {cb g:Nat}
    (ho:o.op=.call { callee:=.builtin .append,args:=#[s,z],argTypes:=#[58,58] }) (hw:Region.wanted o (yielded ops a.tmps)=true) (hs:a.eval s=.slice (some ⟨g,0,none⟩) 0 0) (hx:a.eval z=.slice Ab m.length cb)
    (hg:W.heap[g]?=some (.cells #[] 23 (0,0))) (hle:W0.heap.size ≤ g) (hF:Kd.F (Kd.slice 3 (Kd.int .i64)) W0 okp Ab m.length m) (hok:∀ k_,okp k_ → ok k_∧k_ < W0.heap.size) (hfr:∀ k_,W0.heap.size ≤ k_ → ok k_)
    (hbw:Below W0.heap.size W0 W) (hm:m.length ≤ 1000000)
    (h:∀ A1 c1 w1,Kd.N (Kd.slice 3 (Kd.int .i64)) 23 w1 W0.heap.size ok (.slice A1 m.length c1) m → Below W0.heap.size W0 w1 → W.grownBy w1 (some g) → ((Value.slice A1 m.length c1).ownBlock=some g ∨ ∃ b,(Value.slice A1 m.length c1).ownBlock=some b∧W.heap.size ≤ b) → Kc (a.put o.dst (.slice A1 m.length c1)) w1) :
    if Region.wanted o (yielded ops a.tmps)=true then Oper.wp Try.prog o a W Kc Q else Kc (a.put o.dst undef) W :=
  rows_stepG (l:=[]) ho hw hs hx (N_empty _ hg hle (hfr g hle)) (Kd.F_below hF hbw) (fun k_ hk=>⟨(hok k_ hk).1,fun he=>by have h:=Option.some.inj (show some k_=some g from he);have:=(hok k_ hk).2;omega⟩) hfr hbw (Nat.zero_le _) hm rfl h
end
theorem blk_al {w:World} {g:Nat} {o:Obj} (h:w.heap[g]?=some o) (o2:Obj):(w.alloc o2).heap[g]?=some o:=blk_below h (below_alloc (Below.refl _ _) o2)
theorem new2 (w:World) (E o:Obj):((w.alloc E).alloc o).heap[w.heap.size + 1]?=some o:=by simpa using blk_new (w.alloc E) o
theorem ne1 (n:Nat):some (n + 1) ≠ some n:=by simp
theorem ne2 (n:Nat):some n ≠ some (n + 1):=by simp
theorem F_lit1 {W:World} {g:Nat} {ok:Nat → Prop} {A:Option Addr} {c:Nat} {p:List Int} (h:W.heap[g]?=some (.cells #[.slice A p.length c] 23 (0,0))) (hA:Kd.F (Kd.int .i64) W ok A p.length p) (hc:p.length ≤ c):Kd.F (Kd.slice 3 (Kd.int .i64)) W (fun k_=>k_=g ∨ ok k_) (some ⟨g,0,none⟩) [p].length [p]:=fun W' hW=>by
  have h2:W'.heap[g]?=some (.cells #[.slice A p.length c] 23 (0,0)):=(hW g (.inl rfl) (blk_lt h)).trans h
  have hC:=hA W' (fun k hk hlt=>hW k (.inr hk) hlt)
  refine ⟨rfl,by simp,fun _=>⟨⟨g,0,none⟩,rfl,fun q u hq=>?_⟩⟩
  match q,hq with
  | 0,hq =>
    obtain rfl:u=p:=by simpa using hq.symm
    refine ⟨[.slice A u.length c],rfl,⟨A,c,rfl,hc,hC⟩,fun a b hab=>?_⟩
    match a,hab with
    | 0,hab=>exact ((by rw [show (0 * (Kd.slice 3 (Kd.int .i64)).sz + 0)=0 by simp,add_plain,blk_cell h2];rfl:W'.cell? ((⟨g,0,none⟩:Addr).add (0 * (Kd.slice 3 (Kd.int .i64)).sz + 0))=some (.slice A u.length c))).trans hab
theorem lit_kept {W w7:World} {g e:Nat} {v v7:Option Nat} {cells:Array Value} (hK:W.heap[g]?=some (.cells cells e (0,0))) (hg:W.grownBy w7 v) (hne:some g ≠ v) (hat:v7=v ∨ ∃ b,v7=some b∧W.heap.size ≤ b):w7.heap[g]?=some (.cells cells e (0,0))∧some g ≠ v7 :=
  ⟨blk_grown hK hg hne,by
    rcases hat with rfl|⟨b,rfl,hb⟩
    · exact hne
    · intro he
      have:=blk_lt hK
      injection he with he
      omega⟩
theorem N_one {W:World} {base:Nat} {ok okp:Nat → Prop} {p:List Int} {q:List (List Int)} {A B:Option Addr} {c d:Nat} (hb:base ≤ W.heap.size) (hF:Kd.FK k60 W okp (⟨p,q⟩:S60) [.slice A p.length c,.slice B q.length d]) (hok:∀ k,okp k → ok k) (hfresh:ok W.heap.size):Kd.N k60 60 (W.alloc (.cells #[.slice A p.length c,.slice B q.length d] 60)) base ok (.slice (some ⟨W.heap.size,0,none⟩) 1 1) [(⟨p,q⟩:S60)]:=by
  refine Kd.N_made (W:=W) (rows:=[[.slice A p.length c,.slice B q.length d]]) (okp:=okp) ⟨fun k hk=>by simpa [Value.ownBlock] using hk.symm,[.slice A p.length c,.slice B q.length d],World.ownsRow_lit W #[.slice A p.length c,.slice B q.length d] 1 hb (by decide) rfl,rfl,fun j p' hj=>?_⟩ (let h:=below_alloc (Below.refl W.heap.size W) (.cells #[.slice A p.length c,.slice B q.length d] 60);⟨h.os,h.tape,h.output,h.size,fun i hi _=>h.block i hi⟩) ⟨_,rfl,Nat.le_refl _⟩ rfl (fun j x' c' hx hc=>?_) hok hfresh
  · match j,hj with
    | 0,hj =>
      obtain rfl:[.slice A p.length c,.slice B q.length d]=p':=by simpa using hj
      exact ⟨rfl,rfl,fun u hu=>by rcases List.mem_cons.1 hu with rfl|hu;rfl;obtain rfl:=List.mem_singleton.1 hu;rfl⟩
  · match j,hx,hc with
    | 0,hx,hc =>
      obtain rfl:(⟨p,q⟩:S60)=x':=by simpa using hx
      obtain rfl:[.slice A p.length c,.slice B q.length d]=c':=by simpa using hc
      exact hF
set_option maxHeartbeats 4000000 in
set_option maxRecDepth 100000 in
theorem bellpullref05_Star.calls (k:Nat) (J:Nat → Prop) (d:Int) (A0:Option Addr) (c0:Nat) (x:List S60) (r:List S60) (w:World) (hx:Kd.F k60 w J A0 x.length x) (hcx:x.length ≤ c0) (h:bellpullref05_Star.f k d x=some r) :
    Calls Try.prog 42 #[.int .i64 d,.slice A0 x.length c0] w fun e w'=>∃ (A:Option Addr) (c:Nat),e=.returned (.slice A r.length c)∧r.length ≤ c∧Kd.F k60 w' (fun k_=>J k_ ∨ w.heap.size ≤ k_) A r.length r∧Below w.heap.size w w':=by
  unfold bellpullref05_Star.f at h
  by_cases hd:0 ≤ d∧d ≤ 100∧x.length ≤ 60
  case neg=>rw [if_neg hd] at h;cases h
  rw [if_pos hd] at h
  obtain ⟨s0,hs0,h⟩:=Option.bind_eq_some_iff.mp h
  have hr:=Option.some.inj h
  have HR:=mk0 hr
  have HS0:=mk0 hs0
  have HD:=mk0 hd
  have HXF:=mk0 hx
  have HXC:=mk0 hcx
  obtain ⟨n,rfl⟩:∃ n:Nat,d=n:=⟨d.toNat,by omega⟩
  rw [Int.toNat_natCast] at HR
  have hn0:=eq_true hd.1
  have HN1:Aside0 (n ≤ 100):=⟨by omega⟩
  have hmk:∀ W:World,(Instr.makeSlice 23 (.int .i64 (n:Int)) (.int .i64 (n:Int))).run Try.prog W=.ok (.slice (some ⟨W.heap.size,0,none⟩) n n) (W.alloc (.cells (madeCells #[.int .i64 0] n) 3)):=fun W=>run_make_row' 23 3 (.int .i64 0) 8 Try.underlying23 info3 rfl .i64 .i64 n (by omega) (by omega) W
  clear h hr hs0 hx hcx hd
  have HB:=mk0 (Below.refl w.heap.size w)
  go_enter Try.func42,Try.ntmps42
  go_upto_region 2 with (fail)
  have HO:Aside0 (Kd.N k60 60 ((w.alloc (.cells (madeCells #[.int .i64 0] n) 3)).alloc (.cells #[.slice (some ⟨w.heap.size,0,none⟩) n n,.slice none 0 0] 60)) w.heap.size (fun k_=>J k_ ∨ w.heap.size ≤ k_) (.slice (some ⟨w.heap.size + 1,0,none⟩) 1 1) [(⟨List.replicate n 0,[]⟩:S60)]):=⟨by
    have hz:=F_zeros (blk_new w (.cells (madeCells #[.int .i64 0] n) 3)) HN1.1
    have h:=N_one (W:=w.alloc (.cells (madeCells #[.int .i64 0] n) 3)) (base:=w.heap.size) (ok:=fun k_=>J k_ ∨ w.heap.size ≤ k_) (okp:=fun k_=>k_=w.heap.size) (p:=List.replicate n 0) (q:=[]) (A:=some ⟨w.heap.size,0,none⟩) (B:=none) (c:=n) (d:=0) (by simp) (k60_mkF _ _ ⟨List.replicate n 0,[]⟩ (by simp) hz (Nat.le_refl _) (Kd.F_nil _ _ _)) (fun k_ hk=>.inr (by omega)) (.inr (by simp))
    simpa using h⟩
  replace HB:=mk0 (below_alloc (below_alloc HB.1 (.cells (madeCells #[.int .i64 0] n) 3)) (.cells #[.slice (some ⟨w.heap.size,0,none⟩) n n,.slice none 0 0] 60))
  generalize ((w.alloc (.cells (madeCells #[.int .i64 0] n) 3)).alloc (.cells #[.slice (some ⟨w.heap.size,0,none⟩) n n,.slice none 0 0] 60))=wS at HO HB ⊢
  generalize (Value.slice (some ⟨w.heap.size + 1,0,none⟩) 1 1)=vS at HO ⊢
  have HM:=mk0 (refStar.m_le x)
  go_wp2
  go_loopw [5,6] (fun v5 v6 wq=>∃ (c:Nat) (l s:List S60),v6=.int .i64 (c:Int)∧Aside0 (1 ≤ c∧c ≤ refStar.m x)∧Aside0 (refStar.out k n x (refStar.m x - c) c=some s)∧Aside0 (l ++ s=r∧l.length=c)∧Aside0 (Kd.N k60 60 wq w.heap.size (fun k_=>J k_ ∨ w.heap.size ≤ k_) v5 l)∧Aside0 (Below w.heap.size w wq)) (fun _ v6 _=>refStar.m x - (intOf v6).toNat)
  case atStart=>exact ⟨1,_,s0,rfl,⟨Nat.le_refl _,HM.1.1⟩,HS0,⟨HR.1,rfl⟩,HO,HB⟩
  case round =>
    clear HO HB HS0 HR
    obtain ⟨c,l,s,rfl,HC,HS,HL,HO,HB⟩:=hrel
    obtain ⟨q,hq⟩:∃ q,q=min x.length 4:=⟨_,rfl⟩
    have hmn:Builtin.min2 (.int .i64 (x.length:Int)) (.int .i64 4)=pure (.int .i64 (q:Int)):=by
      rw [min2_int,hq]
      congr 2
      split <;> omega
    have hq0:((0:Int) ≤ (q:Int))=True:=eq_true (by omega)
    have hsl:wrap64 (2 ^ min q 64)=(refStar.m x:Int):=by
      have:=refStar.shl x
      rw [i64_w,Int.one_mul,← hq] at this
      rw [show min q 64=q by omega]
      exact this
    clear hq
    by_cases hlt:c < refStar.m x
    · have hd1:decide ((c:Int) < (refStar.m x:Int))=true:=decide_eq_true (by omega)
      have hd1n:decide (c < refStar.m x)=true:=decide_eq_true hlt
      have hs:=HS.1
      rw [show refStar.m x - c=(refStar.m x - (c + 1)) + 1 by omega,refStar.out] at hs
      obtain ⟨e,he,hs⟩:=Option.bind_eq_some_iff.mp hs
      obtain ⟨s2,hs2,hs⟩:=Option.bind_eq_some_iff.mp hs
      have hs3:=Option.some.inj hs
      rw [Int.toNat_natCast] at he
      have HE:=mk0 he
      have HS2:=mk0 hs2
      have HL2:Aside0 ((l ++ [e]) ++ s2=r∧(l ++ [e]).length=c + 1):=⟨by rw [List.append_assoc,List.singleton_append,hs3];exact HL.1.1,by rw [List.length_append,HL.1.2];rfl⟩
      have HLT:=mk0 hlt
      have HZ:=mk0 (F_zeros (blk_new wr (.cells (madeCells #[.int .i64 0] n) 3)) HN1.1)
      have HX:=mk0 (below_alloc (Below.refl wr.heap.size wr) (.cells (madeCells #[.int .i64 0] n) 3))
      clear hs hs2 hs3 he hlt HS
      go_upto_region 6 with (first
        | ((with_reducible refine gate_dst (N:=7) rfl ?_);refine box_event ?hg (N:=7) ?hd (cs:=#[.slice none 0 0,.slice none 0 0]) (t:=60) ?hr ?_;(case hd=>rfl);(case hg=>rfl);(case hr=>first|(go_simp;done)|(go_simp;rfl));intro g hg w6 hbox hb;have HBK:=mk0 hbox;have HG:=mk0 (show wr.heap.size + 1 ≤ g from by rw [hg];simp);replace HX:=mk0 (below_step HX.1 hb);replace HZ:=mk0 (Kd.F_below HZ.1 hb);clear hb hbox hg;have hcl0:w6.cell? ⟨g,0,none⟩=some (.slice none 0 0):=(blk_cell HBK.1 0).trans rfl;have hcl1:w6.cell? ⟨g,1,none⟩=some (.slice none 0 0):=(blk_cell HBK.1 1).trans rfl;have hfl0:=blk_frozen HBK.1 0;have hfl1:=blk_frozen HBK.1 1))
      clear hcl0 hcl1 hfl0 hfl1
      replace HX:Aside0 (Below wr.heap.size wr ((w6.setCell ⟨g,0,none⟩ (.slice (some ⟨wr.heap.size,0,none⟩) n n)).setCell ⟨g,1,none⟩ (.slice none 0 0))):=⟨below_set (below_set HX.1 (by have:=HG.1;omega)) (by have:=HG.1;omega)⟩
      replace HBK:Aside0 (((w6.setCell ⟨g,0,none⟩ (.slice (some ⟨wr.heap.size,0,none⟩) n n)).setCell ⟨g,1,none⟩ (.slice none 0 0)).heap[g]?=some (.cells #[.slice (some ⟨wr.heap.size,0,none⟩) n n,.slice none 0 0] 60 (0,0))):=⟨by refine blk_put (cs:=#[.slice (some ⟨wr.heap.size,0,none⟩) n n,.slice none 0 0]) ?_ 1 _ rfl;exact blk_put HBK.1 0 _ rfl⟩
      replace HZ:Aside0 (Kd.F (Kd.int .i64) ((w6.setCell ⟨g,0,none⟩ (.slice (some ⟨wr.heap.size,0,none⟩) n n)).setCell ⟨g,1,none⟩ (.slice none 0 0)) (fun k_=>(J k_∧k_ < w.heap.size) ∨ (wr.heap.size ≤ k_∧k_ ≠ g)) (some ⟨wr.heap.size,0,none⟩) (List.replicate n (0:Int)).length (List.replicate n 0)):=⟨Kd.F_mono (Kd.F_far (p:=⟨g,1,none⟩) (Kd.F_far (p:=⟨g,0,none⟩) HZ.1 (fun k_ hk=>by have:=HG.1;show k_ ≠ g;omega) _) (fun k_ hk=>by have:=HG.1;show k_ ≠ g;omega) _) (fun k_ hk=>.inr ⟨by omega,by have:=HG.1;omega⟩)⟩
      generalize ((w6.setCell ⟨g,0,none⟩ (.slice (some ⟨wr.heap.size,0,none⟩) n n)).setCell ⟨g,1,none⟩ (.slice none 0 0))=w7 at HX HBK HZ ⊢
      have HW0:=mk0 HB.1.size
      go_wp2
      go_loopw [8] (fun v8 wz=>∃ (i:Nat) (t:S60) (Ap:Option Addr) (cp:Nat) (Aq:Option Addr) (cq:Nat),v8=.int .i64 (i:Int)∧Aside0 (i ≤ x.length)∧Aside0 (refStar.inn k c (x.drop i) i t=some e)∧Aside0 (wz.heap[g]?=some (.cells #[.slice Ap t.f0.length cp,.slice Aq t.f1.length cq] 60 (0,0)))∧Aside0 (t.f0.length ≤ cp∧t.f1.length ≤ cq)∧Aside0 (Kd.F (Kd.int .i64) wz (fun k_=>(J k_∧k_ < w.heap.size) ∨ (wr.heap.size ≤ k_∧k_ ≠ g)) Ap t.f0.length t.f0)∧Aside0 (Kd.F (Kd.slice 3 (Kd.int .i64)) wz (fun k_=>(J k_∧k_ < w.heap.size) ∨ (wr.heap.size ≤ k_∧k_ ≠ g)) Aq t.f1.length t.f1)∧Aside0 (Below wr.heap.size wr wz)) (fun v8 _=>x.length - (intOf v8).toNat)
      case atStart=>exact ⟨0,⟨List.replicate n 0,[]⟩,some ⟨wr.heap.size,0,none⟩,n,none,0,rfl,⟨Nat.zero_le _⟩,HE,⟨by have:=HBK.1;simpa using this⟩,⟨⟨by simp,Nat.le_refl _⟩⟩,HZ,⟨Kd.F_nil _ _ _⟩,HX⟩
      case round =>
        clear HX HBK HZ HE
        rename World=>wz
        obtain ⟨i,t,Ap,cp,Aq,cq,rfl,HI,HIN,HBK,HTC,HP,HQ,HX⟩:=hrel
        have hcl0:wz.cell? ⟨g,0,none⟩=some (.slice Ap t.f0.length cp):=(blk_cell HBK.1 0).trans rfl
        have hcl1:wz.cell? ⟨g,1,none⟩=some (.slice Aq t.f1.length cq):=(blk_cell HBK.1 1).trans rfl
        by_cases hit:i < x.length
        · have hd2:decide ((i:Int) < (x.length:Int))=true:=decide_eq_true (by omega)
          have hd2n:decide (i < x.length)=true:=decide_eq_true hit
          have HIT:=mk0 hit
          have HWI:Aside0 (wrap64 ((i:Int) + 1)=((i + 1:Nat):Int)):=⟨by have:=HD.1;unfold wrap64;omega⟩
          have q0:((0:Int) ≤ (i:Int))=True:=eq_true (by omega)
          have hin:=HIN.1
          obtain ⟨a,ha⟩:∃ a,a=x.getD i z60:=⟨_,rfl⟩
          have hdrop:x.drop i=a :: x.drop (i + 1):=by
            rw [List.drop_eq_getElem_cons hit,ha,List.getD_eq_getElem?_getD,List.getElem?_eq_getElem hit]
            rfl
          rw [hdrop,refStar.inn] at hin
          have hbits:=refStar.bits (c:=c) (i:=i) (by have:=HLT.1;have:=HM.1;omega) (by have:=HD.1;omega)
          by_cases hb1:c / 2 ^ i % 2=1
          · rw [if_pos hb1] at hin
            have hbt:(Go.bits .and .i64 ((c:Int) / 2 ^ min i 64) 1 == 1)=true:=by rw [hbits,hb1];rfl
            obtain ⟨b,hb,hin⟩:=Option.bind_eq_some_iff.mp hin
            by_cases hll:t.f1.length ≤ 100000∧a.f1.length ≤ 100000
            case neg=>rw [if_neg hll] at hin;cases hin
            rw [if_pos hll] at hin
            obtain ⟨ax,Aa,ca,Ab,cb,e0,hx0,hx1,hlca,hFa,hlcb,hFb⟩:=at_F60 HXF.1 (i:Int) (by omega) (by omega)
            cases e0
            have hra:rd_T60 x (i:Int)=a:=by rw [ha];rfl
            rw [hra] at hx0 hx1 hlca hFa hlcb hFb
            simp only [Int.toNat_natCast] at hx0 hx1
            have HBW:=mk0 (below_step HB.1 HX.1)
            have HS:Aside0 (∀ w',Below w.heap.size w w' → w'.cell? (ax.add (i * 2))=some (.slice Aa a.f0.length ca)∧w'.cell? ⟨(ax.add (i * 2)).block,(ax.add (i * 2)).off + 1,none⟩=some (.slice Ab a.f1.length cb)):=⟨fun w' hb=>⟨pw_cell_below hb hx0,pw_cell_below hb hx1⟩⟩
            replace hx0:=pw_cell_below HBW.1 hx0
            have HPC:Aside0 (∀ W:World,Below wz.heap.size wz W → Calls Try.prog 34 #[.slice Ap t.f0.length cp,.slice Aa a.f0.length ca] W fun e w'=>∃ (A9:Option Addr) (c9:Nat),e=.returned (.slice A9 b.length c9)∧Kd.R (Kd.int .i64) 3 w' wz.heap.size (fun _=>True) (.slice A9 b.length c9) b∧Below wz.heap.size wz w'):=⟨fun W hW=>by
              refine (bellpullref05_Plus.calls k Ap cp t.f0 Aa ca a.f0 b W (Kd.C_below (Kd.F_now HP.1) hW) HTC.1.1 (Kd.C_below (Kd.F_now hFa) (below_step HBW.1 hW)) hlca hb).mono ?_
              rintro e w' ⟨v,rfl,hR,hb⟩
              obtain ⟨A9,c9,rfl⟩:=Kd.R_slice hR
              exact ⟨A9,c9,rfl,Kd.R_lower hR hW.size,below_step hW hb⟩⟩
            have HFA:=mk0 (Kd.F_bound hFa)
            have HFB:=mk0 (Kd.F_bound hFb)
            have HLA:=mk0 hlca
            have HLB:=mk0 hlcb
            have HLL:=mk0 hll
            have HIN2:=mk0 hin
            have HGW:=mk0 (blk_lt HBK.1)
            have q1:((i:Int) < (x.length:Int))=True:=eq_true (by omega)
            have q1n:(i < x.length)=True:=eq_true hit
            clear hin hb hll hx1 hlca hFa hlcb hFb ha hra hdrop hbits hb1 hit HIN
            go_upto_region 10 with (fail)
            have HG2:=mk0 (show wr.heap.size ≤ g by have:=HG.1;omega)
            rw [show Op.load 23 (Operand.tmp 35)=refStar.ld0 from rfl]
            go_region_held3 (fun w'=>w'.cell? (ax.add (i * 2))=some (.slice Aa a.f0.length ca)) (exact (HS.1 _ (below_step HB.1 (by with_reducible repeat (first|exact HX.1|exact below_step HX.1 HB8.1|refine below_set ?_ HG2.1|apply below_alloc|apply Below.drew)))).1)
              (first
                | (go_at_call 34;(with_reducible refine (HPC.1 _ ?b).mono ?_);(case b=>with_reducible repeat (first|exact Below.refl _ _|apply below_alloc|apply Below.drew));rintro e w8 ⟨A9,c9,rfl,hR,hb⟩;have HR:=mk0 hR;have HB8:=mk0 hb;have HK8:=mk0 (blk_below HBK.1 hb);have hz0:w8.cell? ⟨g,0,none⟩=some (.slice Ap t.f0.length cp):=(blk_cell HK8.1 0).trans rfl;have hf0:=blk_frozen HK8.1 0;clear hb hR)
                | fail)
            have HX9:Aside0 (Below wr.heap.size wr (w8.setCell ⟨g,0,none⟩ (.slice A9 b.length c9))):=⟨below_set (below_step HX.1 HB8.1) HG2.1⟩
            have HK9:Aside0 ((w8.setCell ⟨g,0,none⟩ (.slice A9 b.length c9)).heap[g]?=some (.cells #[.slice A9 b.length c9,.slice Aq t.f1.length cq] 60 (0,0))):=⟨blk_put HK8.1 0 _ rfl⟩
            have HP9:Aside0 (Kd.F (Kd.int .i64) (w8.setCell ⟨g,0,none⟩ (.slice A9 b.length c9)) (fun k_=>(J k_∧k_ < w.heap.size) ∨ (wr.heap.size ≤ k_∧k_ ≠ g)) A9 b.length b):=⟨Kd.F_far (p:=⟨g,0,none⟩) (Kd.F_mono (Kd.R_F (Kd.R_bound HR.1)) (fun k_ hk=>.inr ⟨Nat.le_trans HX.1.size hk.2.1,by have:=HGW.1;omega⟩)) (fun k_ hk=>by have:=HW0.1;have:=HG2.1;show k_ ≠ g;omega) _⟩
            have HQ9:Aside0 (Kd.F (Kd.slice 3 (Kd.int .i64)) (w8.setCell ⟨g,0,none⟩ (.slice A9 b.length c9)) (fun k_=>(J k_∧k_ < w.heap.size) ∨ (wr.heap.size ≤ k_∧k_ ≠ g)) Aq t.f1.length t.f1):=⟨Kd.F_far (p:=⟨g,0,none⟩) (Kd.F_below HQ.1 HB8.1) (fun k_ hk=>by have:=HW0.1;have:=HG2.1;show k_ ≠ g;omega) _⟩
            have HL9:=mk0 (Kd.R_reads' HR.1).2.1
            have HG3:=mk0 HG.1
            have HTQ:=mk0 HTC.1.2
            clear HX HB8 HK8 HR hz0 hf0 HBK HP HQ HPC hcl0 hcl1 hx0 HTC HBW
            generalize w8.setCell ⟨g,0,none⟩ (.slice A9 b.length c9)=w9 at HX9 HK9 HP9 HQ9 ⊢
            have hcl1:w9.cell? ⟨g,1,none⟩=some (.slice Aq t.f1.length cq):=(blk_cell HK9.1 1).trans rfl
            have hcla:∀ o,(w9.alloc o).cell? ⟨g,1,none⟩=some (.slice Aq t.f1.length cq):=fun o=>pw_cell_below (below_alloc (Below.refl _ _) o) hcl1
            have hclb:∀ o o2,((w9.alloc o).alloc o2).cell? ⟨g,1,none⟩=some (.slice Aq t.f1.length cq):=fun o o2=>pw_cell_below (below_alloc (Below.refl _ _) o2) (hcla o)
            have HBW:=mk0 (below_step HB.1 HX9.1)
            have HX:=mk0 (Below.refl w9.heap.size w9)
            have HG9:=mk0 (blk_lt HK9.1)
            have HGW2:=mk0 (show w.heap.size ≤ g by have:=HW0.1;have:=HG3.1;omega)
            have HS9:Aside0 (wr.heap.size ≤ w9.heap.size∧w.heap.size ≤ w9.heap.size):=⟨HX9.1.size,HBW.1.size⟩
            obtain ⟨L1,hL1⟩:∃ L1,L1=t.f1 ++ [a.f0]:=⟨_,rfl⟩
            obtain ⟨L2,hL2⟩:∃ L2,L2=L1 ++ a.f1:=⟨_,rfl⟩
            have HL1:=mk0 hL1
            have HL2':=mk0 hL2
            have HLL1:Aside0 (L1.length ≤ 100001):=⟨by have:=HLL.1.1;rw [hL1,List.length_append,List.length_singleton];omega⟩
            have HLt:Aside0 (t.f1 ++ (a.f0 :: a.f1)=L2):=⟨by rw [hL2,hL1];simp⟩
            have HIN3:Aside0 (refStar.inn k c (x.drop (i + 1)) (i + 1) ⟨b,L2⟩=some e):=⟨by rw [← HLt.1];exact HIN2.1⟩
            clear hL1 hL2
            go_upto_region 11 with (fail)
            rw [show Op.load 58 (Operand.tmp 45)=refStar.ld1 from rfl]
            go_region_held3 (fun w'=>w'.cell? (ax.add (i * 2))=some (.slice Aa a.f0.length ca)∧w'.cell? ⟨(ax.add (i * 2)).block,(ax.add (i * 2)).off + 1,none⟩=some (.slice Ab a.f1.length cb)) (first|with_reducible exact HS.1 _ (below_set (below_step HBW.1 HX.1) HGW2.1)|exact HS.1 _ (below_step HBW.1 (by with_reducible repeat (first|exact HX.1|apply below_alloc|apply Below.drew))))
              (first
                | (refine rows_stepE (W0:=w9) (ok:=fun k_=>(J k_∧k_ < w.heap.size) ∨ (wr.heap.size ≤ k_∧k_ ≠ g)) (m:=t.f1) (by rfl) (by rfl) (by rfl) (by rfl) ?eb ?le (Kd.F_bound HQ9.1) (fun k_ hk=>hk) (fun k_ hk=>.inr ⟨Nat.le_trans HS9.1.1 hk,by have:=HG9.1;omega⟩) ?b (Nat.le_trans HLL.1.1 (by decide)) ?_;(case eb=>with_reducible repeat (first|exact blk_new _ _|exact new2 _ _ _|refine blk_drew ?_|refine blk_al ?_ _));(case le=>first|exact Nat.le_refl _|simp);(case b=>with_reducible repeat (first|exact HX.1|apply below_alloc|apply Below.drew));intro A7 c7 w7 hN hb hg hat;have HN7:=mk0 hN;replace HX:=mk0 hb;(first|(with_reducible have HK7:=mk0 (lit_kept (g:=w9.heap.size + 1) (e:=23) (cells:=#[.slice Aa a.f0.length ca]) (new2 _ _ _) hg (ne1 _) hat))|(with_reducible have HK7:=mk0 (lit_kept (g:=w9.heap.size + 1) (e:=23) (cells:=#[.slice Aa a.f0.length ca]) (blk_drew (new2 _ _ _)) hg (ne1 _) hat))|(with_reducible have HK7:=mk0 (lit_kept (g:=w9.heap.size) (e:=23) (cells:=#[.slice Aa a.f0.length ca]) (blk_al (blk_new _ _) _) hg (ne2 _) hat))|(with_reducible have HK7:=mk0 (lit_kept (g:=w9.heap.size) (e:=23) (cells:=#[.slice Aa a.f0.length ca]) (blk_drew (blk_al (blk_new _ _) _)) hg (ne2 _) hat))|skip);clear hN hb hg hat)
                | (refine rows_stepG (W0:=w9) (v:=.slice A7 t.f1.length c7) (ok:=fun k_=>(J k_∧k_ < w.heap.size) ∨ (wr.heap.size ≤ k_∧k_ ≠ g)) (l:=t.f1) (m:=[a.f0]) (L:=L1) (by rfl) (by rfl) (by rfl) (by rfl) ?n (F_lit1 ?g1 (Kd.F_below HFA.1 (below_step HBW.1 ?b)) HLA.1) ?ok1 (fun k_ hk=>.inr ⟨Nat.le_trans HS9.1.1 hk,by have:=HG9.1;omega⟩) ?b (Nat.le_trans HLL.1.1 (by decide)) (by simp) HL1.1 ?_;(case n=>with_reducible repeat (first|exact HN7.1|refine N_al ?_ _|refine Kd.N_drew ?_));(case g1=>with_reducible repeat (first|exact HK7.1.1|exact blk_new _ _|refine blk_drew ?_|refine blk_al ?_ _));(case b=>with_reducible repeat (first|exact HX.1|apply below_alloc|apply Below.drew));(case ok1=>intro k_ hk;rcases hk with rfl|hk;exact ⟨.inr ⟨Nat.le_trans HS9.1.1 (by first|exact HX.1.size|exact Nat.le_refl _|simp),by have h1:=HG9.1;have h2:w9.heap.size ≤ _:=(by first|exact HX.1.size|exact Nat.le_refl _|simp);omega⟩,by first|exact HK7.1.2|exact fun he=>Nat.lt_irrefl _ (Kd.N_lt HN7.1 _ he.symm)⟩;exact ⟨.inl hk,fun he=>by have:=Kd.N_base HN7.1 _ he.symm;have:=HS9.1.2;omega⟩);intro A8 c8 w8 hN hb hg hat;have HN8:=mk0 hN;replace HX:=mk0 hb;clear hN hb hg hat)
                | (refine rows_stepG (W0:=w9) (v:=.slice A8 L1.length c8) (ok:=fun k_=>(J k_∧k_ < w.heap.size) ∨ (wr.heap.size ≤ k_∧k_ ≠ g)) (l:=L1) (m:=a.f1) (L:=L2) (by rfl) (by rfl) (by rfl) (by rfl) ?n (Kd.F_below HFB.1 (below_step HBW.1 ?b)) (fun k_ hk=>⟨.inl hk,fun he=>by have:=Kd.N_base HN8.1 _ he.symm;have:=HS9.1.2;have:=hk.2;omega⟩) (fun k_ hk=>.inr ⟨Nat.le_trans HS9.1.1 hk,by have:=HG9.1;omega⟩) ?b2 (Nat.le_trans HLL1.1 (by decide)) (Nat.le_trans HLL.1.2 (by decide)) HL2'.1 ?_;(case n=>with_reducible repeat (first|exact HN8.1|refine N_al ?_ _|refine Kd.N_drew ?_));(case b=>with_reducible repeat (first|exact HX.1|apply below_alloc|apply Below.drew));(case b2=>with_reducible repeat (first|exact HX.1|apply below_alloc|apply Below.drew));intro A10 c10 w10 hN hb hg hat;have HN10:=mk0 hN;replace HX:=mk0 hb;have HK10:=mk0 (blk_below HK9.1 hb);have hz1:w10.cell? ⟨g,1,none⟩=some (.slice Aq t.f1.length cq):=(blk_cell HK10.1 1).trans rfl;have hf1:=blk_frozen HK10.1 1;clear hN hb hg hat)
                | fail)
            all_goals
              go_wp2
              refine ⟨⟨i + 1,⟨b,L2⟩,A9,c9,A10,c10,congrArg _ HWI.1,⟨HIT.1⟩,HIN3,⟨blk_put HK10.1 1 _ rfl⟩,⟨⟨HL9.1,(Kd.N_reads' HN10.1).2.1⟩⟩,⟨Kd.F_far (p:=⟨g,1,none⟩) (Kd.F_below HP9.1 HX.1) (fun k_ hk=>by have:=HGW2.1;show k_ ≠ g;omega) _⟩,⟨Kd.F_far (p:=⟨g,1,none⟩) (Kd.N_F HN10.1) (fun k_ hk=>by have:=HGW2.1;show k_ ≠ g;omega) _⟩,⟨below_set (below_step HX9.1 HX.1) HG2.1⟩⟩,?_⟩
              rw [HWI.1];simp only [intOf];have:=HIT.1;omega
          · rw [if_neg hb1] at hin
            have hbt:(Go.bits .and .i64 ((c:Int) / 2 ^ min i 64) 1 == 1)=false:=by
              rw [hbits]
              have:c / 2 ^ i % 2=0:=by omega
              rw [this];rfl
            have HIN2:=mk0 hin
            clear hin ha hdrop hbits hb1 hit HIN
            go_wp2
            refine ⟨⟨i + 1,t,Ap,cp,Aq,cq,congrArg _ HWI.1,⟨HIT.1⟩,HIN2,HBK,HTC,HP,HQ,HX⟩,?_⟩
            rw [HWI.1];simp only [intOf];have:=HIT.1;omega
        · have hd2:decide ((i:Int) < (x.length:Int))=false:=decide_eq_false (by omega)
          have hd2n:decide (i < x.length)=false:=decide_eq_false hit
          have hi:i=x.length:=by have:=HI.1;omega
          have hin:=HIN.1
          rw [hi,List.drop_length,refStar.inn] at hin
          obtain rfl:=Option.some.inj hin
          clear hin hi hit HIN
          go_wp2_with (first
            | ((with_reducible refine gate_dst (N:=65) rfl ?_);refine Kd.N_append k60 (w0:=w) w.heap.size rfl (.tmp 62) (.tmp 64) 22 60 (.agg #[.slice none 0 0,.slice none 0 0]) 48 (by rfl) Try.underlying22 info60 rfl (by decide) (by omega) u5 l t [.slice Ap t.f0.length cp,.slice Aq t.f1.length cq] (fun k_=>J k_ ∨ w.heap.size ≤ k_) (fun k_=>(J k_∧k_ < w.heap.size) ∨ (wr.heap.size ≤ k_∧k_ ≠ g)) (by rfl) (by rfl) (k60_mkF _ _ t HTC.1.1 HP.1 HTC.1.2 HQ.1) (fun k_ hk=>⟨hk.elim (fun h=>.inl h.1) (fun h=>.inr (Nat.le_trans HW0.1 h.1)),fun he=>by have h1:=Kd.N_lt HO.1 k_ he.symm;have h2:=Kd.N_base HO.1 k_ he.symm;omega⟩) (fun k_ hk=>.inr (Nat.le_trans (Nat.le_trans HW0.1 HX.1.size) hk)) (Kd.N_below HO.1 HX.1) (below_step HB.1 HX.1) (Nat.le_trans HW0.1 HX.1.size) (by have:=HL.1.2;have:=HC.1;have:=HM.1;omega) ?_;intro v9 w9 hN9 hb9 _ _;have HN9:=mk0 hN9;have HB9:=mk0 hb9;clear hN9 hb9))
          have HWC:Aside0 (wrap64 ((c:Int) + 1)=((c + 1:Nat):Int)):=⟨by have:=HC.1;have:=HM.1;unfold wrap64;omega⟩
          refine ⟨⟨c + 1,l ++ [t],s2,congrArg _ HWC.1,⟨by omega,HLT.1⟩,HS2,HL2,HN9,HB9⟩,?_⟩
          rw [HWC.1];simp only [intOf];have:=HLT.1;omega
    · have hd1:decide ((c:Int) < (refStar.m x:Int))=false:=decide_eq_false (by omega)
      have hd1n:decide (c < refStar.m x)=false:=decide_eq_false hlt
      have hc:c=refStar.m x:=by have:=HC.1;omega
      have hs:=HS.1
      rw [hc,Nat.sub_self,refStar.out] at hs
      obtain rfl:=Option.some.inj hs
      have hl:=HL.1.1
      rw [List.append_nil] at hl
      subst hl
      clear hs hlt hc HS
      go_wp2
      go_ret
      have hN:=HO.1
      obtain ⟨A,c,rfl⟩:=Kd.N_slice hN
      exact ⟨A,c,rfl,(Kd.N_reads' hN).2.1,Kd.N_F hN,HB.1⟩
end Go.Proofs.Ytkonljiembcdlaa.PC
namespace Go.Proofs.Ytkonljiembcdlaa.PC
open Go.Proofs.MyWords Go.RowKit Go.Proofs.YtkonljiembcdlaaW.PrintWords Go.Proofs.YtkonljiembcdlaaW.PrintLast Go.Proofs.YtkonljiembcdlaaW.PrintMore
attribute [local go_sem] max2_int min2_int max_two min_two max_three min_three max_four min_four   -- for this text's walks alone
set_option linter.unusedVariables false
set_option linter.unusedSimpArgs false
attribute [local go_sem] eqGuard_slices eqlnil23 neqnil23 eqlnil58 neqnil58
def bellpulllaw05_cut.f (l0:List Int):Option (List Int):=(some (([]:List Int):List Int)).bind fun y351=>(if 0 ≤ (mn (l0.length:Int) 4) then (if (mn (l0.length:Int) 4) ≤ (l0.length:Int) then ((some (l0.take ((mn (l0.length:Int) 4):Int).toNat:List Int)).bind fun y354=>(if y351.length + y354.length < 17592186044416 then (some (y351 ++ y354)) else (none))) else (none)) else (none))
set_option maxHeartbeats 8000000 in
set_option maxRecDepth 100000 in
theorem bellpulllaw05_cut.calls (A0:Option Addr) (Y:Nat) (D:List Int) (r:List Int) (w:World) (a8:Kd.C (Kd.int .i64) w A0 D.length D) (a9:D.length ≤ Y) (h:bellpulllaw05_cut.f D=some r) :
    Calls Try.prog 18 #[.slice A0 D.length Y] w fun e w'=>∃ b0:Value,e=.returned (b0)∧Kd.R (Kd.int .i64) 3 w' w.heap.size (fun _=>True) b0 r∧Below w.heap.size w w':=by
 have b7:=mk0 a8;have b8:=mk0 a9;clear a8 a9;have O:=mk0 (Below.refl w.heap.size w);have H:((some (([]:List Int):List Int)).bind fun F=>(if 0 ≤ (mn (D.length:Int) 4) then (if (mn (D.length:Int) 4) ≤ (D.length:Int) then ((some (D.take ((mn (D.length:Int) 4):Int).toNat:List Int)).bind fun B=>(if F.length + B.length < 17592186044416 then (some (F ++ B)) else (none))) else (none)) else (none)))=some r:=h;clear h;obtain ⟨F,I⟩:∃ y_:List Int,y_=(([]:List Int)):=⟨_,rfl⟩
 replace H:(if 0 ≤ (mn (D.length:Int) 4) then (if (mn (D.length:Int) 4) ≤ (D.length:Int) then ((some (D.take ((mn (D.length:Int) 4):Int).toNat:List Int)).bind fun B=>(if F.length + B.length < 17592186044416 then (some (F ++ B)) else (none))) else (none)) else (none))=some r:=by first|(rw [I];with_reducible exact H)|(have G:=(Option.bind_some _ _).symm.trans H;rw [I];with_reducible exact G)|(have G:=(Option.bind_some _ _).symm.trans H;with_reducible exact G)|with_reducible exact H|(rw [I];exact H)|exact H
 have U:=mk0 I;clear I;obtain ⟨E,M⟩:∃ j_:Int,(mn (D.length:Int) 4)=j_:=⟨_,rfl⟩
 replace H:(if 0 ≤ (E) then (if (E) ≤ (D.length:Int) then ((some (D.take ((E):Int).toNat:List Int)).bind fun B=>(if F.length + B.length < 17592186044416 then (some (F ++ B)) else (none))) else (none)) else (none))=some r:=by first|(rw [M] at H;exact H)|(simp only [M] at H ⊢;exact H)
 (try (have hji2h:E ≤ 4:=by (rw [← M];unfold mn;(repeat' split) <;> omega)));(try (have hji2g:E ≤ 64:=by omega));(try (have hji2l:0 ≤ E:=by (rw [← M];unfold mn;(repeat' split) <;> omega)));(try (have hji2m:0 ≤ E:=by omega));have b9:(if 4 < (D.length:Int) then 4 else (D.length:Int))=E:=M
 by_cases c3:0 ≤ (E)
 ·
  rw [if_pos c3] at H;have c3b0:=eq_true c3;have c3b1:decide (0 ≤ (E))=true:=decide_eq_true c3;clear c3
  by_cases c4:(E) ≤ (D.length:Int)
  ·
   rw [if_pos c4] at H;have c4b0:=eq_true c4;have c4b1:decide ((E) ≤ (D.length:Int))=true:=decide_eq_true c4;clear c4;obtain ⟨B,J⟩:∃ y_:List Int,y_=(D.take ((E):Int).toNat):=⟨_,rfl⟩
   replace H:(if F.length + B.length < 17592186044416 then (some (F ++ B)) else (none))=some r:=by first|(rw [J];with_reducible exact H)|(have G:=(Option.bind_some _ _).symm.trans H;rw [J];with_reducible exact G)|(have G:=(Option.bind_some _ _).symm.trans H;with_reducible exact G)|with_reducible exact H|(rw [J];exact H)|exact H
   have V:=mk0 J;clear J
   by_cases c5:F.length + B.length < 17592186044416
   ·
    rw [if_pos c5] at H;have b2:=mk0 c5;clear c5;obtain ⟨b3,L⟩:∃ y_:List Int,y_=(F ++ B):=⟨_,rfl⟩
    replace H:(some b3)=some r:=by first|(rw [L];with_reducible exact H)|(have G:=(Option.bind_some _ _).symm.trans H;rw [L];with_reducible exact G)|(have G:=(Option.bind_some _ _).symm.trans H;with_reducible exact G)|with_reducible exact H|(rw [L];exact H)|exact H
    have a3:=mk0 L;clear L;obtain rfl:=Option.some.inj H;go_enter Try.func18,Try.ntmps18;go_wp2_with (first|((with_reducible refine gate_dst (N:=3) rfl ?_);refine Kd.R_lit (Kd.int .i64) _ 3 ?hg (N:=3) ?hd (xs:=([]:List Int)) (inner:=[]) (ok:=fun _=>True) (okp:=fun _=>True) ?hr ?hp (fun _ hk=>hk) trivial (Below.refl _ _) (Nat.le_refl _) (by simp) ?_;(case hd=>rfl);(case hg=>rfl);(case hr=>first|(go_simp;done)|(go_simp;rfl));(case hp=>exact (Reps.none _ _));intro b4 w6 Q hb hg_ a4;clear hg_ a4;(first|rw [← U.1] at Q|(simp only [Int.reduceToNat] at Q;rw [← U.1] at Q));have X:=mk0 (Kd.R_lower Q (below_size O.1));replace O:=bst O hb;clear hb Q;have q8:((E):Int) ≤ ((D.length:Int):Int):=of_decide_eq_true (by first|(with_reducible assumption)|assumption);obtain ⟨c6,Z,_,b6,_⟩:=info_parts info3;have T:D.length ≤ Y:=b8.1;have b1:Kd.C (Kd.int .i64) _ A0 D.length D:=b7.1;have a5:=cut_to (P:=Try.prog) 23 3 .i64 Try.underlying23 Z A0 D.length Y (E) (of_decide_eq_true (by first|(with_reducible assumption)|assumption)) q8 T;have a0:=Kd.C_take (m:=((E):Int).toNat) b1 (by omega);have a1:B.length=((E):Int).toNat:=(by rw [V.1,l1_];omega);rw [← V.1] at a0;rw [← a1] at a5;have a6:=mk0 a0;have c1:=mk0 (show B.length ≤ Y from by omega);clear a0 b1 T Z b6;have c7:=mk0 a1;clear a1;replace q8:=eq_true q8)|((with_reducible refine gate_builtin (b:=.append) (xs:=#[.tmp 3,.tmp 8]) rfl ?_);at_builtin;refine Kd.R_append_rows (Kd.int .i64) (w0:=w) w.heap.size rfl (.tmp 3) (.tmp 8) 23 3 (.int .i64 0) 8 rfl Try.underlying23 info3 rfl (by decide) (by omega) b4 F B _ _ _ (fun _=>True) (fun _=>False) rfl rfl ?aO ?aR (fun _ _ h=>h) (fun _ h=>h.elim) ?aF ?aB ?aS ?aL ?_;(case aR=>repeat (first|exact (Kd.C_below a6.1 O.1)|(with_reducible refine Kd.C_alloc ?_ _)|(with_reducible refine Kd.C_drewN ?_ _)|(with_reducible refine Kd.C_drew ?_)));(case aB=>exact (by repeat (first|(with_reducible first|exact O.1|apply below_alloc|apply pw_below_drewN|apply below_drew1)|exact O.1)));(case aF=>exact (fun _ _=>trivial));(case aO=>exact (by (with_reducible repeat (first|apply Kd.R_alloc|apply Kd.R_drewN|apply Kd.R_drew));exact X.1));(case aS=>exact (below_size (by repeat (first|(with_reducible first|exact O.1|apply below_alloc|apply pw_below_drewN|apply below_drew1)|exact O.1))));(case aL=>have:=b2.1;omega);intro c2 w9 ho hb hg hat;rw [← a3.1] at ho;have a7:=mk0 (ho);replace O:=mk0 (hb);clear X;clear ho hb hg hat));go_ret;exact ⟨_,by first|rfl|(simp [errW_none,errW_some] <;> rfl)|(simp only [← M];first|rfl|(simp [errW_none,errW_some] <;> rfl))|(simp [*,errW_none,errW_some] <;> rfl),by (with_reducible repeat (first|apply Kd.R_alloc|apply Kd.R_drewN|apply Kd.R_drew));exact a7.1,by repeat (first|(with_reducible first|exact O.1|apply below_alloc|apply pw_below_drewN|apply below_drew1)|exact O.1)⟩
   ·
    rw [if_neg c5] at H;exact absurd H (by simp)
  ·
   rw [if_neg c4] at H;exact absurd H (by simp)
 ·
  rw [if_neg c3] at H;exact absurd H (by simp)
end Go.Proofs.Ytkonljiembcdlaa.PC
namespace Go.Proofs.Ytkonljiembcdlaa.PC
open Go.Proofs.MyWords Go.RowKit Go.Proofs.YtkonljiembcdlaaW.PrintWords Go.Proofs.YtkonljiembcdlaaW.PrintLast Go.Proofs.YtkonljiembcdlaaW.PrintMore
attribute [local go_sem] max2_int min2_int max_two min_two max_three min_three max_four min_four   -- for this text's walks alone
set_option linter.unusedVariables false
set_option linter.unusedSimpArgs false
attribute [local go_sem] eqGuard_slices eqlnil23 neqnil23 eqlnil58 neqnil58
mutual
def bellpulllaw05_few.l0:Nat → List (S60) → List (S60) → Int → Option ((List (S60)))
  | 0,_,_,_=>none
  | k + 1,x0,x3,x4=>if x4 < (x0.length:Int) then (bellpulllaw05_few.j1 k x0 x3 x4 (decide (x4 ≤ 8))) else (bellpulllaw05_few.j1 k x0 x3 x4 false)
def bellpulllaw05_few.j1:Nat → List (S60) → List (S60) → Int → Bool → Option ((List (S60)))
  | 0,_,_,_,_=>none
  | k + 1,x0,x3,x4,x16=>if x16=true then (if 0 ≤ x4 then (if x4 < (x0.length:Int) then ((bellpulllaw05_cut.f ((rd_T60 x0 x4).f0)).bind fun t365=>(bellpulllaw05_few.l1 k x0 x3 x4 0 t365 ([]:List (List Int)))) else (none)) else (none)) else (some x3)
def bellpulllaw05_few.l1:Nat → List (S60) → List (S60) → Int → Int → List Int → List (List Int) → Option ((List (S60)))
  | 0,_,_,_,_,_,_=>none
  | k + 1,x0,x3,x4,x6,x369000,x369001=>if 0 ≤ x4 then (if x4 < (x0.length:Int) then (if x6 < (((rd_T60 x0 x4).f1).length:Int) then (if x6 ≤ 4 then (if 0 ≤ x6 then ((bellpulllaw05_cut.f (rd_L1 ((rd_T60 x0 x4).f1) x6)).bind fun t372=>(if x369001.length < 5864062014805 then (bellpulllaw05_few.l1 k x0 x3 x4 (wrap64 (x6 + 1)) x369000 (x369001 ++ [t372])) else (none))) else (none)) else (if x3.length < 2932031007402 then (bellpulllaw05_few.l0 k x0 (x3 ++ [(⟨x369000,x369001⟩:S60)]) (wrap64 (x4 + 1))) else (none))) else (if x3.length < 2932031007402 then (bellpulllaw05_few.l0 k x0 (x3 ++ [(⟨x369000,x369001⟩:S60)]) (wrap64 (x4 + 1))) else (none))) else (none)) else (none)
end
def bellpulllaw05_few.f (k:Nat) (l0:List (S60)):Option ((List (S60))):=bellpulllaw05_few.l0 k l0 (([]:List (S60))) 0
set_option maxHeartbeats 8000000 in
set_option maxRecDepth 100000 in
theorem bellpulllaw05_few.calls (k:Nat) (A0:Option Addr) (c0:Nat) (X:List (S60)) (r:List (S60)) (w:World) (m1:Kd.C k60 w A0 X.length X) (m2:X.length ≤ c0) (h:bellpulllaw05_few.f k X=some r) :
    Calls Try.prog 17 #[.slice A0 X.length c0] w fun e w'=>∃ m3:Value,e=.returned (m3)∧Kd.R k60 60 w' w.heap.size (fun _=>True) m3 r∧Below w.heap.size w w':=by
 have q8:=Try.underlying60;have f6:=mk0 m1;have r9:=mk0 m2;clear m1 m2;have I:=mk0 (Below.refl w.heap.size w);have H:(bellpulllaw05_few.l0 k X (([]:List (S60))) 0)=some r:=h;clear h;obtain ⟨i3,b2⟩:∃ y_:List (S60),y_=(([]:List (S60))):=⟨_,rfl⟩;(replace H:(bellpulllaw05_few.l0 k X i3 0)=some r:=by first|(rw [b2];with_reducible exact H)|(have a5:=(Option.bind_some _ _).symm.trans H;rw [b2];with_reducible exact a5)|(have a5:=(Option.bind_some _ _).symm.trans H;with_reducible exact a5)|with_reducible exact H|(rw [b2];exact H)|exact H);have h2:=mk0 b2;clear b2;have H':=mk0 H;clear H;go_enter Try.func17,Try.ntmps17;go_wp2_with (first|((with_reducible refine gate_dst (N:=8) rfl ?_);refine Kd.R_lit k60 _ 60 ?hg (N:=8) ?hd (xs:=([]:List (S60))) (inner:=[]) (ok:=fun _=>True) (okp:=fun _=>True) ?hr ?hp (fun _ hk=>hk) trivial (Below.refl _ _) (Nat.le_refl _) (by simp) ?_;(case hd=>rfl);(case hg=>rfl);(case hr=>first|(go_simp;done)|(go_simp;rfl));(case hp=>exact (Reps.none _ _));intro q9 w2 f7 hb hg_ j7;clear hg_ j7;(first|rw [← h2.1] at f7|(simp only [Int.reduceToNat] at f7;rw [← h2.1] at f7));have j8:=mk0 (Kd.R_lower f7 (below_size I.1));replace I:=bst I hb;clear hb f7));go_loopg [3,4] k (fun kq v3 v4 w'=>∃ (Z:List (S60)) (D:Int),v4=.int .i64 D∧Aside0 (bellpulllaw05_few.l0 kq X Z D=some r)∧Aside0 (kq ≤ k)∧Aside0 (Kd.R k60 60 w' w.heap.size (fun _=>True) v3 Z)∧Aside0 (Below w.heap.size w w'));case atStart=>exact ⟨(i3),(0),(by first|rfl|(simp;done)|(simp [*];done)),H',⟨Nat.le_refl _⟩,⟨by exact j8.1⟩,⟨by exact I.1⟩⟩
 case round =>
  (clear H';try clear c1);try clear p2
  obtain ⟨Z,D,rfl,HA,c4,M,I⟩:=hrel;cases gk with
  | zero=>exact absurd HA.1 (by simp [bellpulllaw05_few.l0])
  | succ k1 =>
   have H:=HA.1;clear HA;simp only [bellpulllaw05_few.l0] at H;have i4:=mk0 H;clear H;go_upto_region 3 with (fail);go_cut [16] (fun p8 wc=>∃ (kq:Nat) (c9:Bool),p8=.bool c9∧Aside0 (bellpulllaw05_few.j1 kq X Z D c9=some r)∧Aside0 (kq ≤ k1)∧Aside0 (Kd.R k60 60 wc w.heap.size (fun _=>True) u3 Z)∧Aside0 (Below w.heap.size w wc));case first =>have H:=i4.1;clear i4;by_cases c5:D < (X.length:Int);(· rw [if_pos c5] at H;have c5b0:decide (D < (X.length:Int))=true:=decide_eq_true c5;clear c5;(first|rw [c5b0]|(simp only [i64_w,i32_w];rw [c5b0])|skip);have H':=mk0 H;clear H;go_wp2;go_meet;case rel=>exact ⟨_,(decide (D ≤ 8)),(by first|rfl|(simp;done)|(simp [*];done)),H',⟨by have:=c4.1;first|omega|exact Nat.le_refl _⟩,⟨by exact M.1⟩,⟨by exact I.1⟩⟩);· rw [if_neg c5] at H;have c5b0:decide (D < (X.length:Int))=false:=decide_eq_false c5;clear c5;(first|rw [c5b0]|(simp only [i64_w,i32_w];rw [c5b0])|skip);have H':=mk0 H;clear H;go_wp2;go_meet;case rel=>exact ⟨_,(false),(by first|rfl|(simp;done)|(simp [*];done)),H',⟨by have:=c4.1;first|omega|exact Nat.le_refl _⟩,⟨by exact M.1⟩,⟨by exact I.1⟩⟩
   case rest =>
    (clear i4;try clear c1);(try clear p2);(try clear c5);(try clear c5b0);try clear p2
    obtain ⟨kq,c9,rfl,HA,d4,M,I⟩:=hcut;cases kq with
    | zero=>exact absurd HA.1 (by simp [bellpulllaw05_few.j1])
    | succ kj3 =>
     have H:=HA.1;clear HA;simp only [bellpulllaw05_few.j1] at H;by_cases c6:c9=true
     ·
      (subst c6;have H1:(if 0 ≤ D then (if D < (X.length:Int) then ((bellpulllaw05_cut.f ((rd_T60 X D).f0)).bind fun G=>(bellpulllaw05_few.l1 kj3 X Z D 0 G ([]:List (List Int)))) else (none)) else (none))=some r:=by rw [if_pos rfl] at H;exact H);clear H;have H:=H1;clear H1;by_cases c7:0 ≤ D
      ·
       rw [if_pos c7] at H;have c7b0:decide (0 ≤ D)=true:=decide_eq_true c7;clear c7;by_cases c8:D < (X.length:Int)
       ·
        rw [if_pos c8] at H;have c8b0:decide (D < (X.length:Int))=true:=decide_eq_true c8;clear c8;replace H:=Option.bind_eq_some_iff.mp H;obtain ⟨G,m4,H⟩:=H;(try dsimp only at H);have A9:=mk0 m4;clear m4;have H':=mk0 H;clear H;have f2:0 ≤ (D:Int):=of_decide_eq_true (by assumption);have f3:D < (X.length:Int):=of_decide_eq_true (by assumption);obtain ⟨d0,i8,i9,p9,q0,m5,a8,a9,d5,d6,d7,d8⟩:=at_T60 f6.1 D f2 f3;cases m5;replace a8:=bd_ I a8;replace a9:=bd_ I a9;have h4:=mk0 d6;have h5:=mk0 d5;clear d6 d5;have n3:=mk0 d8;have n4:=mk0 d7;clear d8 d7;replace f2:=eq_true f2;replace f3:=eq_true f3;go_wp2_with (first|((with_reducible refine gate_callee (f:=18) rfl ?_);refine goesL_ (some 24) rfl rfl Try.func18 (by kernel_rfl) rfl #[.slice i8 ((rd_T60 X D).f0).length i9] rfl (by (try simp only [m0_,m1_,m2_]);first|done|rfl|(simp only [l0_,l1_];rfl)) ?_;(with_reducible refine (bellpulllaw05_cut.calls _ _ ((rd_T60 X D).f0) G _ ?side1 ?side2 A9.1).mono ?_);(case side1=>repeat (first|exact (Kd.C_below h4.1 I.1)|(with_reducible refine Kd.C_alloc ?_ _)|(with_reducible refine Kd.C_drewN ?_ _)|(with_reducible refine Kd.C_drew ?_)));(case side2=>exact h5.1);rintro e s0 ⟨r3,rfl,b3,hb⟩;refine ⟨_,rfl,?_⟩;have d1:=mk0 (Kd.R_lower b3 (below_size I.1));replace M:=mk0 (Kd.R_elder' M.1 (Kd.R_base b3) hb);replace I:=bst I hb;(try clear hb);(try clear b3);obtain ⟨T,U,m6⟩:=Kd.R_slice d1.1;subst m6)|((with_reducible refine gate_dst (N:=5) rfl ?_);refine box_event ?hg (N:=5) ?hd (cs:=#[.slice none 0 0,.slice none 0 0]) (t:=60) ?hr ?_;(case hd=>rfl);(case hg=>rfl);(case hr=>first|(go_simp;done)|(go_simp;rfl));intro J hg s1 j0 hb;have B:=mk0 (j0);have j9:=szw hg I;have a4:=j9;replace M:=mk0 (Kd.R_below (Kd.R_elderB M.1 J (Nat.le_of_eq hg.symm)) hb);replace d1:=rbl d1 hb;replace I:=bst I hb;clear hb j0 hg;have h6:=q0_ B;have h7:=q1_ B;have h8:=blk_frozen B.1 0;have h9:=blk_frozen B.1 1));go_loopg [6] kj3 (fun kq v6 w'=>∃ (V:Int) (E:List (List Int)) (Y:Value),v6=.int .i64 V∧Aside0 (bellpulllaw05_few.l1 kq X Z D V G E=some r)∧Aside0 (kq ≤ kj3)∧Aside0 (Kd.R k60 60 w' w.heap.size (fun k_=>some k_ ≠ ((.slice T G.length U):Value).ownBlock∧some k_ ≠ (Y:Value).ownBlock∧k_ ≠ J) u3 Z)∧Aside0 (Kd.R (Kd.int .i64) 3 w' w.heap.size (fun _=>True) (.slice T G.length U) G)∧Aside0 (Kd.S (Kd.slice 3 (Kd.int .i64)) 23 w' w.heap.size (fun k_=>some k_ ≠ ((.slice T G.length U):Value).ownBlock) Y E)∧Aside0 (w'.heap[J]?=some (.cells #[(.slice T G.length U),Y] 60 (0,0)))∧Aside0 (Below w.heap.size w w'));case atStart=>exact ⟨(0),(([]:List (List Int))),(.slice none 0 0),(by first|rfl|(simp;done)|(simp [*];done)),H',⟨Nat.le_refl _⟩,⟨by exact Kd.R_mono (Kd.R_far (p:=⟨J,1,none⟩) (Kd.R_far (p:=⟨J,0,none⟩) (Kd.R_mono M.1 (fun k_ hk=>(⟨hk,hk.2⟩:_∧k_ ≠ J))) (fun _ hk=>hk.2) (.slice T G.length U)) (fun _ hk=>hk.2) (.slice none 0 0)) (fun _ hk=>⟨hk.1.1.2,⟨(by simp [Value.ownBlock]),hk.1.2⟩⟩)⟩,⟨by exact Kd.R_mono (Kd.R_far (p:=⟨J,1,none⟩) (Kd.R_far (p:=⟨J,0,none⟩) (Kd.R_types d1.1 B.1 (by decide)) (fun _ hk=>hk.2) (.slice T G.length U)) (fun _ hk=>hk.2) (.slice none 0 0)) (fun _ hk=>trivial)⟩,⟨by first|exact Kd.S_nil _ _ _ _ _|exact Kd.N_nil _ _ _ _ _|exact Kd.V_nil _ _ _ _ _|exact Kd.Q_nil _ _ _ _ _|exact Kd.R_nil _ _ _ _ _⟩,⟨by refine blk_put (cs:=#[.slice T G.length U,.slice none 0 0]) ?_ 1 _ rfl;refine blk_put (cs:=#[.slice none 0 0,.slice none 0 0]) ?_ 0 _ rfl;exact B.1⟩,⟨by repeat (first|(with_reducible first|exact I.1|apply below_alloc|apply pw_below_drewN|apply below_drew1|refine below_set ?_ a4.1)|exact I.1)⟩⟩
        case round =>
         (clear H';try clear c1);(try clear p2);(try clear c3);(try clear p3);(try clear q3);(try clear hx3);(try clear c5);(try clear c5b0);(try clear c6);(try clear c7);(try clear c7b0);(try clear c8);(try clear c8b0);(try clear h6);(try clear h7);(try clear h8);(try clear h9);(try clear a8);(try clear a9);(try clear p2);(try clear f2);try clear f3
         obtain ⟨V,E,Y,rfl,HA,d9,M,L,F,B,I⟩:=hrel;cases gk with
         | zero=>exact absurd HA.1 (by simp [bellpulllaw05_few.l1])
         | succ k3 =>have H:=HA.1;clear HA;simp only [bellpulllaw05_few.l1] at H;by_cases c14:0 ≤ D;(· rw [if_pos c14] at H;have c14b0:decide (0 ≤ D)=true:=decide_eq_true c14;clear c14;by_cases c15:D < (X.length:Int);(· rw [if_pos c15] at H;have c15b0:decide (D < (X.length:Int))=true:=decide_eq_true c15;clear c15;by_cases c16:V < (((rd_T60 X D).f1).length:Int);(· rw [if_pos c16] at H;have c16b0:decide (V < (((rd_T60 X D).f1).length:Int))=true:=decide_eq_true c16;clear c16;by_cases c17:V ≤ 4;(· rw [if_pos c17] at H;have c17b0:decide (V ≤ 4)=true:=decide_eq_true c17;clear c17;by_cases c18:0 ≤ V;(· rw [if_pos c18] at H;have c18b0:decide (0 ≤ V)=true:=decide_eq_true c18;clear c18;replace H:=Option.bind_eq_some_iff.mp H;obtain ⟨b8,j2,H⟩:=H;(try dsimp only at H);have q1:=mk0 j2;clear j2;by_cases c20:E.length < 5864062014805;(· rw [if_pos c20] at H;have l2:=mk0 c20;clear c20;obtain ⟨b9,b4⟩:∃ y_:List (List Int),y_=(E ++ [b8]):=⟨_,rfl⟩;(replace H:(bellpulllaw05_few.l1 k3 X Z D (wrap64 (V + 1)) G b9)=some r:=by first|(rw [b4];with_reducible exact H)|(have a5:=(Option.bind_some _ _).symm.trans H;rw [b4];with_reducible exact a5)|(have a5:=(Option.bind_some _ _).symm.trans H;with_reducible exact a5)|with_reducible exact H|(rw [b4];exact H)|exact H);have l3:=mk0 b4;clear b4;have H':=mk0 H;clear H;have a6:0 ≤ (D:Int):=of_decide_eq_true (by assumption);have a7:D < (X.length:Int):=of_decide_eq_true (by assumption);obtain ⟨b5,f8,f9,g0,g1,d3,O,Q,a0,a1,a2,a3⟩:=at_T60 f6.1 D a6 a7;obtain rfl:d0=b5:=(by injection d3);replace O:=bd_ I O;replace Q:=bd_ I Q;have e0:=mk0 a1;have e1:=mk0 a0;clear a1 a0;have e2:=mk0 a3;have e3:=mk0 a2;clear a3 a2;replace a6:=eq_true a6;replace a7:=eq_true a7;have n5:=q0_ B;have n6:=q1_ B;have n7:=blk_frozen B.1 0;have n8:=blk_frozen B.1 1;have g2:0 ≤ (D:Int):=of_decide_eq_true (by assumption);have g3:D < (X.length:Int):=of_decide_eq_true (by assumption);obtain ⟨l4,q2,q4,q5,q6,m7,b0,b1,e4,e5,e6,e7⟩:=at_T60 f6.1 D g2 g3;obtain rfl:d0=l4:=(by injection m7);replace b0:=bd_ I b0;replace b1:=bd_ I b1;have n9:=mk0 e5;have o0:=mk0 e4;clear e5 e4;have i0:=mk0 e7;have o1:=mk0 e6;clear e7 e6;replace g2:=eq_true g2;replace g3:=eq_true g3;have ea_:=Option.some.inj (O.symm.trans b0);injection ea_ with ea_ en_ ec_;subst ea_;subst ec_;clear en_;have ea_:=Option.some.inj (Q.symm.trans b1);injection ea_ with ea_ en_ ec_;subst ea_;subst ec_;clear en_;have g4:0 ≤ (V:Int):=of_decide_eq_true (by assumption);have g5:V < (((rd_T60 X D).f1).length:Int):=of_decide_eq_true (by assumption);obtain ⟨q7,j3,j4,m8,c2,e8,e9⟩:=at_L1 i0.1 V g4 g5;cases m8;replace c2:=bd_ I c2;have i1:=mk0 e9;have i2:=mk0 e8;clear e9 e8;replace g4:=eq_true g4;replace g5:=eq_true g5;go_wp2_with (first|((with_reducible refine gate_callee (f:=18) rfl ?_);refine goesL_ (some 51) rfl rfl Try.func18 (by kernel_rfl) rfl #[.slice j3 (rd_L1 ((rd_T60 X D).f1) V).length j4] rfl (by (try simp only [m0_,m1_,m2_]);first|done|rfl|(simp only [l0_,l1_];rfl)) ?_;(with_reducible refine (bellpulllaw05_cut.calls _ _ (rd_L1 ((rd_T60 X D).f1) V) b8 _ ?side1 ?side2 q1.1).mono ?_);(case side1=>repeat (first|exact (Kd.C_below i1.1 I.1)|(with_reducible refine Kd.C_alloc ?_ _)|(with_reducible refine Kd.C_drewN ?_ _)|(with_reducible refine Kd.C_drew ?_)));(case side2=>exact i2.1);rintro e s2 ⟨r5,rfl,b3,hb⟩;refine ⟨_,rfl,?_⟩;have d2:=mk0 (Kd.R_lower (Kd.R_new' b3 (Kd.R_lt L.1)) (below_size I.1));replace M:=mk0 (Kd.R_elder' M.1 (Kd.R_base b3) hb);replace L:=mk0 (Kd.R_elder' L.1 (Kd.R_base b3) hb);replace F:=mk0 (Kd.S_elder' F.1 (Kd.R_base b3) hb);replace B:=bkb B hb;replace I:=bst I hb;(try clear hb);(try clear hk);(try clear b3);obtain ⟨g6,g7,m9⟩:=Kd.R_slice d2.1;subst m9)|((with_reducible refine gate_builtin (b:=.append) (xs:=#[.tmp 42,.tmp 52]) rfl ?_);at_builtin;refine Kd.S_append (Kd.slice 3 (Kd.int .i64)) (w0:=w) w.heap.size rfl (.tmp 42) (.tmp 52) 58 23 (.slice none 0 0) 24 rfl Try.underlying58 info23 rfl (by decide) (by omega) Y E b8 [.slice g6 b8.length g7] (fun k_=>some k_ ≠ (.slice T G.length U:Value).ownBlock) (fun k_=>some k_=(.slice g6 b8.length g7:Value).ownBlock) rfl rfl ?aP (fun k_ hk_=>((Kd.R_mono (ok':=fun k_=>((fun k_=>some k_ ≠ (.slice T G.length U:Value).ownBlock)) k_∧some k_ ≠ (Y:Value).ownBlock) (Kd.R_apart' (d2.1) (Kd.S_typed F.1) (by decide)) (fun k_ hk=>⟨hk.1.2,hk.2⟩))).1 k_ hk_.symm) ?aF ?aO ?aB ?aS ?aL ?_;(case aP=>exact Kd.M_row (Kd.R_mono (Kd.R_tight rfl (Kd.R_mono (ok':=fun k_=>((fun k_=>some k_ ≠ (.slice T G.length U:Value).ownBlock)) k_∧some k_ ≠ (Y:Value).ownBlock) (Kd.R_apart' (d2.1) (Kd.S_typed F.1) (by decide)) (fun k_ hk=>⟨hk.1.2,hk.2⟩))) (fun _ h_=>h_)));(case aB=>exact (by repeat (first|(with_reducible first|exact I.1|apply below_alloc|apply pw_below_drewN|apply below_drew1|refine below_set ?_ a4.1)|exact I.1)));(case aF=>exact (fun k_ hk=>Kd.fresh' (Kd.R_lt (by exact L.1)) k_ hk));(case aO=>exact (by exact Kd.S_mono F.1 (fun k_ hk=>⟨hk.1,fun e_=>hk.2 e_⟩)));(case aS=>exact (below_size (by repeat (first|(with_reducible first|exact I.1|apply below_alloc|apply pw_below_drewN|apply below_drew1|refine below_set ?_ a4.1)|exact I.1))));(case aL=>have:=l2.1;omega);intro r6 s3 ho hb hg hat;rw [← l3.1] at ho;have h3:=mk0 (ho);replace M:=mk0 (Kd.R_after (ok:=(fun k_=>some k_ ≠ (.slice T G.length U:Value).ownBlock∧some k_ ≠ (.slice g6 b8.length g7:Value).ownBlock∧k_ ≠ J)) (by exact Kd.R_mono M.1 (fun _ hk=>⟨⟨hk.1.1,⟨hk.2,hk.1.2.2⟩⟩,hk.1.2.1⟩)) hg hat);replace L:=mk0 (Kd.R_over' (by exact L.1) (Kd.S_typed (by exact F.1)) (by decide) hg);replace B:=mk0 (blk_grown (g:=J) (o:=.cells #[.slice T G.length U,Y] 60 (0,0)) (by (with_reducible repeat (first|refine blk_drewN ?_ _|refine blk_drew ?_|refine blk_alloc ?_ _));exact B.1) hg (Kd.S_ne F.1 B.1 (by decide)));replace I:=mk0 (hb);clear F;clear d2;clear ho hb hg hat;obtain ⟨f4,f5,n0⟩:=Kd.S_slice h3.1;subst n0;have o2:=q0_ B;have o3:=q1_ B;have o4:=blk_frozen B.1 0;have o5:=blk_frozen B.1 1));go_roundg k3;(case measure=>have:=c4.1;have:=d4.1;have:=d9.1;omega);case rel=>exact ⟨(wrap64 (V + 1)),(b9),(.slice f4 b9.length f5),(by first|rfl|(simp;done)|(simp [*];done)),H',⟨by have:=c4.1;have:=d4.1;have:=d9.1;omega⟩,⟨by exact Kd.R_mono (Kd.R_far (p:=⟨J,1,none⟩) (Kd.R_mono M.1 (fun k_ hk=>(⟨hk,hk.1.2.2⟩:_∧k_ ≠ J))) (fun _ hk=>hk.2) (.slice f4 b9.length f5)) (fun _ hk=>⟨hk.1.1.1,⟨hk.1.2,hk.1.1.2.2⟩⟩)⟩,⟨by exact Kd.R_mono (Kd.R_far (p:=⟨J,1,none⟩) (Kd.R_types L.1 B.1 (by decide)) (fun _ hk=>hk.2) (.slice f4 b9.length f5)) (fun _ hk=>trivial)⟩,⟨by exact Kd.S_mono (Kd.S_far (p:=⟨J,1,none⟩) (Kd.S_types h3.1 B.1 (by decide)) (fun _ hk=>hk.2) (.slice f4 b9.length f5)) (fun _ hk=>hk.1)⟩,⟨by refine blk_put (cs:=#[.slice T G.length U,Y]) ?_ 1 _ rfl;exact B.1⟩,⟨by repeat (first|(with_reducible first|exact I.1|apply below_alloc|apply pw_below_drewN|apply below_drew1|refine below_set ?_ a4.1)|exact I.1)⟩⟩);· rw [if_neg c20] at H;exact absurd H (by simp));· rw [if_neg c18] at H;exact absurd H (by simp));· rw [if_neg c17] at H;have c17b0:decide (V ≤ 4)=false:=decide_eq_false c17;clear c17;by_cases c27:Z.length < 2932031007402;(· rw [if_pos c27] at H;have l5:=mk0 c27;clear c27;obtain ⟨j5,b6⟩:∃ y_:List (S60),y_=(Z ++ [(⟨G,E⟩:S60)]):=⟨_,rfl⟩;(replace H:(bellpulllaw05_few.l0 k3 X j5 (wrap64 (D + 1)))=some r:=by first|(rw [b6];with_reducible exact H)|(have a5:=(Option.bind_some _ _).symm.trans H;rw [b6];with_reducible exact a5)|(have a5:=(Option.bind_some _ _).symm.trans H;with_reducible exact a5)|with_reducible exact H|(rw [b6];exact H)|exact H);have l6:=mk0 b6;clear b6;have H':=mk0 H;clear H;have a6:0 ≤ (D:Int):=of_decide_eq_true (by assumption);have a7:D < (X.length:Int):=of_decide_eq_true (by assumption);obtain ⟨b5,f8,f9,g0,g1,d3,O,Q,a0,a1,a2,a3⟩:=at_T60 f6.1 D a6 a7;obtain rfl:d0=b5:=(by injection d3);replace O:=bd_ I O;replace Q:=bd_ I Q;have e0:=mk0 a1;have e1:=mk0 a0;clear a1 a0;have e2:=mk0 a3;have e3:=mk0 a2;clear a3 a2;replace a6:=eq_true a6;replace a7:=eq_true a7;have o6:=q0_ B;have o7:=q1_ B;have o8:=blk_frozen B.1 0;have o9:=blk_frozen B.1 1;obtain ⟨g8,g9,n1⟩:=Kd.S_slice F.1;subst n1;go_wp2_with (first|((with_reducible refine gate_builtin (b:=.append) (xs:=#[.tmp 55,.tmp 57]) rfl ?_);at_builtin;refine Kd.R_append k60 (w0:=w) w.heap.size rfl (.tmp 55) (.tmp 57) 22 60 (.agg #[(.slice none 0 0),(.slice none 0 0)]) 48 rfl Try.underlying22 info60 rfl (by decide) (by omega) u3 Z (⟨G,E⟩:S60) [.slice T G.length U,.slice g8 E.length g9] (fun k_=>k_ ≠ J) (fun k_=>((fun k_=>k_ ≠ J)) k_∧some k_ ≠ (u3:Value).ownBlock) rfl rfl ?aP (fun _ hk=>hk) ?aF ?aO ?aB ?aS ?aL ?_;(case aP=>exact k60_mkM _ _ _ (⟨G,E⟩:S60) (Kd.R_mono (Kd.R_types (Kd.R_apart' (L.1) (Kd.R_typed M.1) (by decide)) B.1 (by decide)) (fun k_ hk=>⟨hk.2,hk.1.2⟩)) (Kd.R_mono (Kd.R_types (Kd.R_apart' ((Kd.S_R F.1)) (Kd.R_typed M.1) (by decide)) B.1 (by decide)) (fun k_ hk=>⟨hk.2,hk.1.2⟩)));(case aB=>exact (by repeat (first|(with_reducible first|exact I.1|apply below_alloc|apply pw_below_drewN|apply below_drew1|refine below_set ?_ a4.1)|exact I.1)));(case aF=>exact (fun k_ hk=>Kd.freshB (g:=J) (o:=.cells #[.slice T G.length U,.slice g8 E.length g9] 60 (0,0)) (by (with_reducible repeat (first|refine blk_drewN ?_ _|refine blk_drew ?_|refine blk_alloc ?_ _));exact B.1) k_ hk));(case aO=>exact (by exact Kd.R_mono M.1 (fun _ hk=>hk.2.2)));(case aS=>exact (below_size (by repeat (first|(with_reducible first|exact I.1|apply below_alloc|apply pw_below_drewN|apply below_drew1|refine below_set ?_ a4.1)|exact I.1))));(case aL=>have:=l5.1;omega);intro r7 s4 ho hb hg hat;rw [← l6.1] at ho;have l7:=mk0 (ho);replace B:=mk0 (blk_grown (g:=J) (o:=.cells #[.slice T G.length U,.slice g8 E.length g9] 60 (0,0)) (by (with_reducible repeat (first|refine blk_drewN ?_ _|refine blk_drew ?_|refine blk_alloc ?_ _));exact B.1) hg (Kd.R_away M.1 (fun _ hk=>hk.2.2)));replace I:=mk0 (hb);clear M;clear L;clear F;clear ho hb hg hat));go_roundg k3;(case measure=>have:=c4.1;have:=d4.1;have:=d9.1;omega);case rel=>exact ⟨(j5),(wrap64 (D + 1)),(by first|rfl|(simp;done)|(simp [*];done)),H',⟨by have:=c4.1;have:=d4.1;have:=d9.1;omega⟩,⟨by exact Kd.R_mono l7.1 (fun _ hk=>trivial)⟩,⟨by repeat (first|(with_reducible first|exact I.1|apply below_alloc|apply pw_below_drewN|apply below_drew1|refine below_set ?_ a4.1)|exact I.1)⟩⟩);· rw [if_neg c27] at H;exact absurd H (by simp));· rw [if_neg c16] at H;have c16b0:decide (V < (((rd_T60 X D).f1).length:Int))=false:=decide_eq_false c16;clear c16;by_cases c31:Z.length < 2932031007402;(· rw [if_pos c31] at H;have l8:=mk0 c31;clear c31;obtain ⟨j6,b7⟩:∃ y_:List (S60),y_=(Z ++ [(⟨G,E⟩:S60)]):=⟨_,rfl⟩;(replace H:(bellpulllaw05_few.l0 k3 X j6 (wrap64 (D + 1)))=some r:=by first|(rw [b7];with_reducible exact H)|(have a5:=(Option.bind_some _ _).symm.trans H;rw [b7];with_reducible exact a5)|(have a5:=(Option.bind_some _ _).symm.trans H;with_reducible exact a5)|with_reducible exact H|(rw [b7];exact H)|exact H);have l9:=mk0 b7;clear b7;have H':=mk0 H;clear H;have a6:0 ≤ (D:Int):=of_decide_eq_true (by assumption);have a7:D < (X.length:Int):=of_decide_eq_true (by assumption);obtain ⟨b5,f8,f9,g0,g1,d3,O,Q,a0,a1,a2,a3⟩:=at_T60 f6.1 D a6 a7;obtain rfl:d0=b5:=(by injection d3);replace O:=bd_ I O;replace Q:=bd_ I Q;have e0:=mk0 a1;have e1:=mk0 a0;clear a1 a0;have e2:=mk0 a3;have e3:=mk0 a2;clear a3 a2;replace a6:=eq_true a6;replace a7:=eq_true a7;have p0:=q0_ B;have p1:=q1_ B;have p4:=blk_frozen B.1 0;have p5:=blk_frozen B.1 1;obtain ⟨h0,h1,n2⟩:=Kd.S_slice F.1;subst n2;go_wp2_with (first|((with_reducible refine gate_builtin (b:=.append) (xs:=#[.tmp 55,.tmp 57]) rfl ?_);at_builtin;refine Kd.R_append k60 (w0:=w) w.heap.size rfl (.tmp 55) (.tmp 57) 22 60 (.agg #[(.slice none 0 0),(.slice none 0 0)]) 48 rfl Try.underlying22 info60 rfl (by decide) (by omega) u3 Z (⟨G,E⟩:S60) [.slice T G.length U,.slice h0 E.length h1] (fun k_=>k_ ≠ J) (fun k_=>((fun k_=>k_ ≠ J)) k_∧some k_ ≠ (u3:Value).ownBlock) rfl rfl ?aP (fun _ hk=>hk) ?aF ?aO ?aB ?aS ?aL ?_;(case aP=>exact k60_mkM _ _ _ (⟨G,E⟩:S60) (Kd.R_mono (Kd.R_types (Kd.R_apart' (L.1) (Kd.R_typed M.1) (by decide)) B.1 (by decide)) (fun k_ hk=>⟨hk.2,hk.1.2⟩)) (Kd.R_mono (Kd.R_types (Kd.R_apart' ((Kd.S_R F.1)) (Kd.R_typed M.1) (by decide)) B.1 (by decide)) (fun k_ hk=>⟨hk.2,hk.1.2⟩)));(case aB=>exact (by repeat (first|(with_reducible first|exact I.1|apply below_alloc|apply pw_below_drewN|apply below_drew1|refine below_set ?_ a4.1)|exact I.1)));(case aF=>exact (fun k_ hk=>Kd.freshB (g:=J) (o:=.cells #[.slice T G.length U,.slice h0 E.length h1] 60 (0,0)) (by (with_reducible repeat (first|refine blk_drewN ?_ _|refine blk_drew ?_|refine blk_alloc ?_ _));exact B.1) k_ hk));(case aO=>exact (by exact Kd.R_mono M.1 (fun _ hk=>hk.2.2)));(case aS=>exact (below_size (by repeat (first|(with_reducible first|exact I.1|apply below_alloc|apply pw_below_drewN|apply below_drew1|refine below_set ?_ a4.1)|exact I.1))));(case aL=>have:=l8.1;omega);intro r8 s5 ho hb hg hat;rw [← l9.1] at ho;have m0:=mk0 (ho);replace B:=mk0 (blk_grown (g:=J) (o:=.cells #[.slice T G.length U,.slice h0 E.length h1] 60 (0,0)) (by (with_reducible repeat (first|refine blk_drewN ?_ _|refine blk_drew ?_|refine blk_alloc ?_ _));exact B.1) hg (Kd.R_away M.1 (fun _ hk=>hk.2.2)));replace I:=mk0 (hb);clear M;clear L;clear F;clear ho hb hg hat));go_roundg k3;(case measure=>have:=c4.1;have:=d4.1;have:=d9.1;omega);case rel=>exact ⟨(j6),(wrap64 (D + 1)),(by first|rfl|(simp;done)|(simp [*];done)),H',⟨by have:=c4.1;have:=d4.1;have:=d9.1;omega⟩,⟨by exact Kd.R_mono m0.1 (fun _ hk=>trivial)⟩,⟨by repeat (first|(with_reducible first|exact I.1|apply below_alloc|apply pw_below_drewN|apply below_drew1|refine below_set ?_ a4.1)|exact I.1)⟩⟩);· rw [if_neg c31] at H;exact absurd H (by simp));· rw [if_neg c15] at H;exact absurd H (by simp));· rw [if_neg c14] at H;exact absurd H (by simp)
       · rw [if_neg c8] at H;exact absurd H (by simp)
      · rw [if_neg c7] at H;exact absurd H (by simp)
     · (replace c6:=Bool.eq_false_iff.mpr c6;subst c6;have H1:(some Z)=some r:=by rw [if_neg (show ¬ (false=true) by decide)] at H;exact H);clear H;have H:=H1;clear H1;obtain rfl:=Option.some.inj H;go_wp2;go_ret;exact ⟨_,by first|rfl|(simp [errW_none,errW_some] <;> rfl)|(simp [*,errW_none,errW_some] <;> rfl),by exact M.1,by exact I.1⟩
end Go.Proofs.Ytkonljiembcdlaa.PC
namespace Go.Proofs.Ytkonljiembcdlaa.PC
open Go.Proofs.MyWords Go.RowKit Go.Proofs.YtkonljiembcdlaaW.PrintWords Go.Proofs.YtkonljiembcdlaaW.PrintLast Go.Proofs.YtkonljiembcdlaaW.PrintMore
attribute [local go_sem] max2_int min2_int max_two min_two max_three min_three max_four min_four   -- for this text's walks alone
set_option linter.unusedVariables false
set_option linter.unusedSimpArgs false
attribute [local go_sem] eqGuard_slices eqlnil23 neqnil23 eqlnil58 neqnil58
def bellpullref01_In.f (a0:Int) (a1:Int) (a2:Int):Option (Bool):=if a0 ≥ a1 then (some (decide (a0 ≤ a2))) else (some false)
set_option maxHeartbeats 8000000 in
set_option maxRecDepth 100000 in
theorem bellpullref01_In.calls (a0:Int) (a1:Int) (a2:Int) (r:Bool) (w:World) (h:bellpullref01_In.f a0 a1 a2=some r) :
    Calls Try.prog 20 #[.int .i64 a0,.int .i64 a1,.int .i64 a2] w fun e w'=>e=.returned (.bool r)∧Drawn0 w w':=by
 have H:(if a0 ≥ a1 then (some (decide (a0 ≤ a2))) else (some false))=some r:=h;clear h
 by_cases c4:a0 ≥ a1
 ·
  rw [if_pos c4] at H;have c4b0:decide (a1 ≤ a0)=true:=decide_eq_true c4;clear c4;obtain rfl:=Option.some.inj H;go_enter Try.func20,Try.ntmps20;go_wp2;go_ret;exact ⟨by first|rfl|(simp;done)|(simp [*];done),by repeat (first|exact Drawn0.refl _|apply Drawn0.step)⟩
 ·
  rw [if_neg c4] at H;have c4b0:decide (a1 ≤ a0)=false:=decide_eq_false c4;clear c4;obtain rfl:=Option.some.inj H;go_enter Try.func20,Try.ntmps20;go_wp2;go_ret;exact ⟨by first|rfl|(simp;done)|(simp [*];done),by repeat (first|exact Drawn0.refl _|apply Drawn0.step)⟩
end Go.Proofs.Ytkonljiembcdlaa.PC
namespace Go.Proofs.Ytkonljiembcdlaa.PC
open Go.Proofs.MyWords Go.RowKit Go.Proofs.YtkonljiembcdlaaW.PrintWords Go.Proofs.YtkonljiembcdlaaW.PrintLast Go.Proofs.YtkonljiembcdlaaW.PrintMore
attribute [local go_sem] max2_int min2_int max_two min_two max_three min_three max_four min_four   -- for this text's walks alone
set_option linter.unusedVariables false
set_option linter.unusedSimpArgs false
attribute [local go_sem] eqGuard_slices eqlnil23 neqnil23 eqlnil58 neqnil58
def bellpullref05_Long.l0:Nat → List (S60) → Int → Option (Bool)
  | 0,_,_=>none
  | k + 1,x0,x3=>if x3 < (x0.length:Int) then (if 0 ≤ x3 then (if (((rd_T60 x0 x3).f1).length:Int) > 4 then (some true) else (bellpullref05_Long.l0 k x0 (wrap64 (x3 + 1)))) else (none)) else (some (decide ((x0.length:Int) > 8)))
def bellpullref05_Long.f (k:Nat) (l0:List (S60)):Option (Bool):=bellpullref05_Long.l0 k l0 0
set_option maxHeartbeats 8000000 in
set_option maxRecDepth 100000 in
theorem bellpullref05_Long.calls (k:Nat) (A0:Option Addr) (c0:Nat) (I:List (S60)) (r:Bool) (w:World) (a1:Kd.C k60 w A0 I.length I) (a2:I.length ≤ c0) (h:bellpullref05_Long.f k I=some r) :
    Calls Try.prog 48 #[.slice A0 I.length c0] w fun e w'=>e=.returned (.bool r)∧Drawn0 w w':=by
 have a3:=mk0 a1;have a8:=mk0 a2;clear a1 a2;have H:(bellpullref05_Long.l0 k I 0)=some r:=h;clear h;have H':=mk0 H;clear H;go_enter Try.func48,Try.ntmps48;go_wp2
 go_loopg [3] k (fun kq v3 w'=>∃ (B:Int),v3=.int .i64 B∧Aside0 (bellpullref05_Long.l0 kq I B=some r)∧Aside0 (kq ≤ k)∧Drawn0 w w')
 case atStart=>exact ⟨(0),(by first|rfl|(simp;done)|(simp [*];done)),H',⟨Nat.le_refl _⟩,by repeat (first|exact Drawn0.refl _|apply Drawn0.step)⟩
 case round =>
  clear H';obtain ⟨B,rfl,HA,a4,⟨m1,rfl⟩⟩:=hrel;cases gk with
  | zero=>exact absurd HA.1 (by simp [bellpullref05_Long.l0])
  | succ k1 =>
   have H:=HA.1;clear HA;simp only [bellpullref05_Long.l0] at H
   by_cases c2:B < (I.length:Int)
   ·
    rw [if_pos c2] at H;have c2b0:decide (B < (I.length:Int))=true:=decide_eq_true c2;clear c2
    by_cases c3:0 ≤ B
    ·
     rw [if_pos c3] at H;have c3b0:decide (0 ≤ B)=true:=decide_eq_true c3;clear c3
     by_cases c4:(((rd_T60 I B).f1).length:Int) > 4
     ·
      rw [if_pos c4] at H;have c4b0:decide (4 < (((rd_T60 I B).f1).length:Int))=true:=decide_eq_true c4;have c4b1:decide (4 < ((rd_T60 I B).f1).length)=true:=decide_eq_true (by omega);clear c4;obtain rfl:=Option.some.inj H;have J:0 ≤ (B:Int):=of_decide_eq_true (by first|(with_reducible assumption)|assumption);have L:B < (I.length:Int):=of_decide_eq_true (by first|(with_reducible assumption)|assumption);obtain ⟨a0,V,X,Y,Z,M,N,O,D,E,F,G⟩:=at_T60 a3.1 B J L;cases M;have Q:=mk0 E;have R:=mk0 D;clear E D;have T:=mk0 G;have U:=mk0 F;clear G F;replace J:=eq_true J;replace L:=eq_true L;go_wp2;go_ret;exact ⟨by first|rfl|(simp;done)|(simp [*];done),by repeat (first|exact Drawn0.refl _|apply Drawn0.step)⟩
     ·
      rw [if_neg c4] at H;have c4b0:decide (4 < (((rd_T60 I B).f1).length:Int))=false:=decide_eq_false c4;have c4b1:decide (4 < ((rd_T60 I B).f1).length)=false:=decide_eq_false (by omega);clear c4;have H':=mk0 H;clear H;have J:0 ≤ (B:Int):=of_decide_eq_true (by first|(with_reducible assumption)|assumption);have L:B < (I.length:Int):=of_decide_eq_true (by first|(with_reducible assumption)|assumption);obtain ⟨a0,V,X,Y,Z,M,N,O,D,E,F,G⟩:=at_T60 a3.1 B J L;cases M;have Q:=mk0 E;have R:=mk0 D;clear E D;have T:=mk0 G;have U:=mk0 F;clear G F;replace J:=eq_true J;replace L:=eq_true L;go_wp2;go_roundg k1
      case measure=>have:=a4.1;omega
      case rel=>exact ⟨(wrap64 (B + 1)),(by first|rfl|(simp;done)|(simp [*];done)),H',⟨by have:=a4.1;omega⟩,by repeat (first|exact Drawn0.refl _|apply Drawn0.step)⟩
    ·
     rw [if_neg c3] at H;exact absurd H (by simp)
   ·
    rw [if_neg c2] at H;have c2b0:decide (B < (I.length:Int))=false:=decide_eq_false c2;clear c2;obtain rfl:=Option.some.inj H;go_wp2;go_ret;exact ⟨by first|rfl|(simp;done)|(simp [*];done),by repeat (first|exact Drawn0.refl _|apply Drawn0.step)⟩
end Go.Proofs.Ytkonljiembcdlaa.PC
namespace Go.Proofs.Ytkonljiembcdlaa.PC
open Go.Proofs.MyWords Go.RowKit Go.Proofs.YtkonljiembcdlaaW.PrintWords Go.Proofs.YtkonljiembcdlaaW.PrintLast Go.Proofs.YtkonljiembcdlaaW.PrintMore
attribute [local go_sem] max2_int min2_int max_two min_two max_three min_three max_four min_four   -- for this text's walks alone
set_option linter.unusedVariables false
set_option linter.unusedSimpArgs false
attribute [local go_sem] eqGuard_slices eqlnil23 neqnil23 eqlnil58 neqnil58
def bellpullref05_wide.l0:Nat → List Int → Int → Int → Option (Bool)
  | 0,_,_,_=>none
  | k + 1,x0,x1,x5=>if x5 < (x0.length:Int) then (if 0 ≤ x5 then ((bellpullref01_In.f (rd x0 x5) 0 x1).bind fun t386=>(if t386=true then (bellpullref05_wide.l0 k x0 x1 (wrap64 (x5 + 1))) else (some true))) else (none)) else (some false)
def bellpullref05_wide.f (k:Nat) (l0:List Int) (a1:Int):Option (Bool):=bellpullref05_wide.l0 k l0 a1 0
set_option maxHeartbeats 8000000 in
set_option maxRecDepth 100000 in
theorem bellpullref05_wide.calls (k:Nat) (X:Option Addr) (Y:Nat) (D:List Int) (G:Int) (r:Bool) (w:World) (O:Kd.C (Kd.int .i64) w X D.length D) (Q:D.length ≤ Y) (h:bellpullref05_wide.f k D G=some r) :
    Calls Try.prog 85 #[.slice X D.length Y,.int .i64 G] w fun e w'=>e=.returned (.bool r)∧Drawn0 w w':=by
 have R:=mk0 O;have a2:=mk0 Q;clear O Q;have H:(bellpullref05_wide.l0 k D G 0)=some r:=h;clear h;have H':=mk0 H;clear H;go_enter Try.func85,Try.ntmps85;go_wp2
 go_loopg [5] k (fun kq v5 w'=>∃ (B:Int),v5=.int .i64 B∧Aside0 (bellpullref05_wide.l0 kq D G B=some r)∧Aside0 (kq ≤ k)∧Drawn0 w w')
 case atStart=>exact ⟨(0),(by first|rfl|(simp;done)|(simp [*];done)),H',⟨Nat.le_refl _⟩,by repeat (first|exact Drawn0.refl _|apply Drawn0.step)⟩
 case round =>
  clear H';try clear p2
  obtain ⟨B,rfl,HA,T,⟨m1,rfl⟩⟩:=hrel;cases gk with
  | zero=>exact absurd HA.1 (by simp [bellpullref05_wide.l0])
  | succ k1 =>
   have H:=HA.1;clear HA;simp only [bellpullref05_wide.l0] at H
   by_cases c3:B < (D.length:Int)
   ·
    rw [if_pos c3] at H;have c3b0:decide (B < (D.length:Int))=true:=decide_eq_true c3;clear c3
    by_cases c4:0 ≤ B
    ·
     rw [if_pos c4] at H;have c4b0:decide (0 ≤ B)=true:=decide_eq_true c4;clear c4;replace H:=Option.bind_eq_some_iff.mp H;obtain ⟨V,U,H⟩:=H;(try dsimp only at H);have Z:=mk0 U;clear U
     by_cases M:V=true
     ·
      subst M;have L:(bellpullref05_wide.l0 k1 D G (wrap64 (B + 1)))=some r:=by rw [if_pos rfl] at H;exact H
      clear H;have H:=L;clear L;have H':=mk0 H;clear H;have E:0 ≤ (B:Int):=of_decide_eq_true (by first|(with_reducible assumption)|assumption);have F:B < (D.length:Int):=of_decide_eq_true (by first|(with_reducible assumption)|assumption);obtain ⟨N,I,J⟩:=Kd.at_int R.1 B E F;cases I;replace E:=eq_true E;replace F:=eq_true F;go_wp2_with (first|((with_reducible refine gate_callee (f:=20) rfl ?_);refine goesL_ (some 17) rfl rfl Try.func20 (by kernel_rfl) rfl #[.int .i64 (rd D B),.int .i64 0,.int .i64 G] rfl (by (try simp only [m0_,m1_,m2_]);first|done|rfl|(simp only [l0_,l1_];rfl)) ?_;(with_reducible refine (bellpullref01_In.calls (rd D B) 0 G true _ Z.1).mono ?_);rintro e w' ⟨rfl,⟨nd,rfl⟩⟩;refine ⟨_,rfl,?_⟩));go_roundg k1
      case measure=>have:=T.1;omega
      case rel=>exact ⟨(wrap64 (B + 1)),(by first|rfl|(simp;done)|(simp [*];done)),H',⟨by have:=T.1;omega⟩,by repeat (first|exact Drawn0.refl _|apply Drawn0.step)⟩
     ·
      replace M:=Bool.eq_false_iff.mpr M;subst M;have L:(some true)=some r:=by rw [if_neg (show ¬ (false=true) by decide)] at H;exact H
      clear H;have H:=L;clear L;obtain rfl:=Option.some.inj H;have E:0 ≤ (B:Int):=of_decide_eq_true (by first|(with_reducible assumption)|assumption);have F:B < (D.length:Int):=of_decide_eq_true (by first|(with_reducible assumption)|assumption);obtain ⟨N,I,J⟩:=Kd.at_int R.1 B E F;cases I;replace E:=eq_true E;replace F:=eq_true F;go_wp2_with (first|((with_reducible refine gate_callee (f:=20) rfl ?_);refine goesL_ (some 17) rfl rfl Try.func20 (by kernel_rfl) rfl #[.int .i64 (rd D B),.int .i64 0,.int .i64 G] rfl (by (try simp only [m0_,m1_,m2_]);first|done|rfl|(simp only [l0_,l1_];rfl)) ?_;(with_reducible refine (bellpullref01_In.calls (rd D B) 0 G false _ Z.1).mono ?_);rintro e w' ⟨rfl,⟨nd,rfl⟩⟩;refine ⟨_,rfl,?_⟩));go_ret;exact ⟨by first|rfl|(simp;done)|(simp [*];done),by repeat (first|exact Drawn0.refl _|apply Drawn0.step)⟩
    ·
     rw [if_neg c4] at H;exact absurd H (by simp)
   ·
    rw [if_neg c3] at H;have c3b0:decide (B < (D.length:Int))=false:=decide_eq_false c3;clear c3;obtain rfl:=Option.some.inj H;go_wp2;go_ret;exact ⟨by first|rfl|(simp;done)|(simp [*];done),by repeat (first|exact Drawn0.refl _|apply Drawn0.step)⟩
end Go.Proofs.Ytkonljiembcdlaa.PC
namespace Go.Proofs.Ytkonljiembcdlaa.PC
open Go.Proofs.MyWords Go.RowKit Go.Proofs.YtkonljiembcdlaaW.PrintWords Go.Proofs.YtkonljiembcdlaaW.PrintLast Go.Proofs.YtkonljiembcdlaaW.PrintMore
attribute [local go_sem] max2_int min2_int max_two min_two max_three min_three max_four min_four   -- for this text's walks alone
set_option linter.unusedVariables false
set_option linter.unusedSimpArgs false
attribute [local go_sem] eqGuard_slices eqlnil23 neqnil23 eqlnil58 neqnil58
mutual
def bellpullref05_Wide.l0:Nat → List (S60) → Int → Option (Bool)
  | 0,_,_=>none
  | k + 1,x1,x5=>if x5 < (x1.length:Int) then (if 0 ≤ x5 then ((bellpullref05_vectors.f ((rd_T60 x1 x5).f0) ((rd_T60 x1 x5).f1)).bind fun t389=>(bellpullref05_Wide.l1 k x1 x5 t389 0)) else (none)) else (some false)
def bellpullref05_Wide.l1:Nat → List (S60) → Int → List (List Int) → Int → Option (Bool)
  | 0,_,_,_,_=>none
  | k + 1,x1,x5,x6,x7=>if x7 < (x6.length:Int) then (if 0 ≤ x7 then ((bellpullref05_wide.f k (rd_L1 x6 x7) 20).bind fun t393=>(if t393=true then (some true) else (bellpullref05_Wide.l1 k x1 x5 x6 (wrap64 (x7 + 1))))) else (none)) else (bellpullref05_Wide.l0 k x1 (wrap64 (x5 + 1)))
end
def bellpullref05_Wide.f (k:Nat) (a0:Int) (l1:List (S60)):Option (Bool):=(bellpullref01_In.f a0 1 3).bind fun t387=>(if t387=true then (bellpullref05_Wide.l0 k l1 0) else (some true))
set_option maxHeartbeats 8000000 in
set_option maxRecDepth 100000 in
theorem bellpullref05_Wide.calls (k:Nat) (a0:Int) (A1:Option Addr) (c1:Nat) (U:List (S60)) (r:Bool) (w:World) (e5:Kd.C k60 w A1 U.length U) (e6:U.length ≤ c1) (h:bellpullref05_Wide.f k a0 U=some r) :
    Calls Try.prog 49 #[.int .i64 a0,.slice A1 U.length c1] w fun e w'=>e=.returned (.bool r)∧Below w.heap.size w w':=by
 have g3:=Try.underlying60;have g0:=mk0 e5;have h3:=mk0 e6;clear e5 e6;have G:=mk0 (Below.refl w.heap.size w);have H:((bellpullref01_In.f a0 1 3).bind fun b5=>(if b5=true then (bellpullref05_Wide.l0 k U 0) else (some true)))=some r:=h;clear h;replace H:=Option.bind_eq_some_iff.mp H;obtain ⟨b5,e7,H⟩:=H;(try dsimp only at H);have A3:=mk0 e7;clear e7;by_cases c4:b5=true
 ·
  (subst c4;have H1:(bellpullref05_Wide.l0 k U 0)=some r:=by rw [if_pos rfl] at H;exact H);clear H;have H:=H1;clear H1;have H':=mk0 H;clear H;go_enter Try.func49,Try.ntmps49;go_wp2_with (first|((with_reducible refine gate_callee (f:=20) rfl ?_);refine goesL_ (some 9) rfl rfl Try.func20 (by kernel_rfl) rfl #[.int .i64 a0,.int .i64 1,.int .i64 3] rfl (by (try simp only [m0_,m1_,m2_]);first|done|rfl|(simp only [l0_,l1_];rfl)) ?_;(with_reducible refine (bellpullref01_In.calls a0 1 3 true _ A3.1).mono ?_);rintro e w' ⟨rfl,⟨nd,rfl⟩⟩;refine ⟨_,rfl,?_⟩));go_loopg [5] k (fun kq v5 w'=>∃ (D:Int),v5=.int .i64 D∧Aside0 (bellpullref05_Wide.l0 kq U D=some r)∧Aside0 (kq ≤ k)∧Aside0 (Below w.heap.size w w'));case atStart=>exact ⟨(0),(by first|rfl|(simp;done)|(simp [*];done)),H',⟨Nat.le_refl _⟩,⟨by repeat (first|(with_reducible first|exact G.1|apply below_alloc|apply pw_below_drewN|apply below_drew1)|exact G.1)⟩⟩
  case round =>
   (clear H';try clear c1);(try clear c2);(try clear p2);try clear c4
   obtain ⟨D,rfl,HA,b7,G⟩:=hrel;cases gk with
   | zero=>exact absurd HA.1 (by simp [bellpullref05_Wide.l0])
   | succ k1 =>
    have H:=HA.1;clear HA;simp only [bellpullref05_Wide.l0] at H;by_cases c5:D < (U.length:Int)
    ·
     rw [if_pos c5] at H;have c5b0:decide (D < (U.length:Int))=true:=decide_eq_true c5;clear c5;by_cases c6:0 ≤ D
     ·
      rw [if_pos c6] at H;have c6b0:decide (0 ≤ D)=true:=decide_eq_true c6;clear c6;replace H:=Option.bind_eq_some_iff.mp H;obtain ⟨F,e8,H⟩:=H;(try dsimp only at H);have A7:=mk0 e8;clear e8;have H':=mk0 H;clear H;have b2:0 ≤ (D:Int):=of_decide_eq_true (by assumption);have b3:D < (U.length:Int):=of_decide_eq_true (by assumption);obtain ⟨g2,d6,d7,d8,d9,f3,Y,Z,a8,a9,b0,b1⟩:=at_T60 g0.1 D b2 b3;cases f3;replace Y:=bd_ G Y;replace Z:=bd_ G Z;have c8:=mk0 a9;have d0:=mk0 a8;clear a9 a8;have d1:=mk0 b1;have d2:=mk0 b0;clear b1 b0;replace b2:=eq_true b2;replace b3:=eq_true b3;go_wp2_with (first|((with_reducible refine gate_callee (f:=75) rfl ?_);refine goesL_ (some 21) rfl rfl Try.func75 (by kernel_rfl) rfl #[.agg #[.slice d6 ((rd_T60 U D).f0).length d7,.slice d8 ((rd_T60 U D).f1).length d9]] rfl (by (try simp only [m0_,m1_,m2_]);first|done|rfl|(simp only [l0_,l1_];rfl)) ?_;(with_reducible refine (bellpullref05_vectors.calls (fun k_=>k_ < w.heap.size) _ _ ((rd_T60 U D).f0) (fun k_=>k_ < w.heap.size) _ _ ((rd_T60 U D).f1) F _ ?side1 ?side2 A7.1).mono ?_);(case side1=>exact Kd.V_mk d0.1 (Kd.F_below (Kd.C_F (Kd.heap_int .i64) c8.1) (by exact G.1)));(case side2=>exact Kd.V_mk d2.1 (Kd.F_below (Kd.C_F (Kd.heap_slice 3 (Kd.heap_int .i64)) d1.1) (by exact G.1)));rintro e w8 ⟨f4,rfl,e9,hb⟩;refine ⟨_,rfl,?_⟩;have e2:=mk0 (Kd.N_lower (Kd.N_mono (ok':=fun k_=>True) e9 (fun k_ hk_=>trivial)) (below_size (by exact G.1)));replace G:=mk0 (below_step (by exact G.1) hb);(try clear hb);(try clear e9)));go_loopg [7] k1 (fun kq v7 w'=>∃ (B:Int),v7=.int .i64 B∧Aside0 (bellpullref05_Wide.l1 kq U D F B=some r)∧Aside0 (kq ≤ k1)∧Aside0 (Kd.N (Kd.slice 3 (Kd.int .i64)) 23 w' w.heap.size (fun _=>True) f4 F)∧Aside0 (Below w.heap.size w w'));case atStart=>exact ⟨(0),(by first|rfl|(simp;done)|(simp [*];done)),H',⟨Nat.le_refl _⟩,⟨by exact e2.1⟩,⟨by exact G.1⟩⟩
      case round =>
       (clear H';try clear c1);(try clear c2);(try clear p2);(try clear c3);(try clear p3);(try clear q3);(try clear hx3);(try clear c4);(try clear c5);(try clear c5b0);(try clear c6);(try clear c6b0);(try clear c7);(try clear Y);(try clear Z);(try clear p2);(try clear b2);try clear b3
       obtain ⟨B,rfl,HA,b8,L,G⟩:=hrel;cases gk with
       | zero=>exact absurd HA.1 (by simp [bellpullref05_Wide.l1])
       | succ k2 =>have H:=HA.1;clear HA;simp only [bellpullref05_Wide.l1] at H;by_cases c9:B < (F.length:Int);(· rw [if_pos c9] at H;have c9b0:decide (B < (F.length:Int))=true:=decide_eq_true c9;clear c9;by_cases c10:0 ≤ B;(· rw [if_pos c10] at H;have c10b0:decide (0 ≤ B)=true:=decide_eq_true c10;clear c10;replace H:=Option.bind_eq_some_iff.mp H;obtain ⟨f5,e0,H⟩:=H;(try dsimp only at H);have f2:=mk0 e0;clear e0;by_cases b9:f5=true;(· (subst b9;have H1:(some true)=some r:=by rw [if_pos rfl] at H;exact H);clear H;have H:=H1;clear H1;obtain rfl:=Option.some.inj H;obtain ⟨g7,g8,f6⟩:=Kd.N_slice L.1;subst f6;have R:0 ≤ (B:Int):=of_decide_eq_true (by first|(with_reducible assumption)|assumption);have T:B < (F.length:Int):=of_decide_eq_true (by first|(with_reducible assumption)|assumption);obtain ⟨e3,a4,a5,b6,a1,M,O⟩:=at_L1 (Kd.N_reads' L.1).2.2 B R T;cases b6;obtain ⟨e4,a6,a7,X⟩:=Kd.N_get L.1 [] B R (by first|exact T|exact of_decide_eq_true (by first|(with_reducible assumption)|assumption)|(have e_:=(Kd.N_reads' L.1).1;omega));obtain ⟨d3,d4,rfl,I,J⟩:=Kd.FK_slice_open a7;have E:=X 0 _ rfl;rw [Nat.add_zero,show ((Kd.slice 3 (Kd.int .i64))).sz=1 from rfl,Nat.mul_one] at E;replace E:=Option.some.inj (E.symm.trans a1);injection E with hva_ hvn_ hvc_;rw [hva_] at J;rw [hvc_] at I;have d5:=mk0 (show Kd.V (Kd.int .i64) 3 _ w.heap.size _ _ (rd_L1 F B) from Kd.V_mk I J);clear hva_ hvn_ hvc_ J I;clear X a6;have Q:=mk0 O;have a2:=mk0 M;clear O M;replace R:=eq_true R;replace T:=eq_true T;go_wp2_with (first|((with_reducible refine gate_callee (f:=85) rfl ?_);refine goesL_ (some 32) rfl rfl Try.func85 (by kernel_rfl) rfl #[.slice a4 (rd_L1 F B).length a5,.int .i64 20] rfl (by (try simp only [m0_,m1_,m2_]);first|done|rfl|(simp only [l0_,l1_];rfl)) ?_;(with_reducible refine (bellpullref05_wide.calls k2 _ _ (rd_L1 F B) 20 true _ ?side1 ?side2 f2.1).mono ?_);(case side1=>repeat (first|exact (by repeat (first|(with_reducible exact Q.1)|(with_reducible refine Kd.C_alloc ?_ _)|(with_reducible refine Kd.C_drewN ?_ _)|(with_reducible refine Kd.C_drew ?_)|exact Q.1))|(with_reducible refine Kd.C_alloc ?_ _)|(with_reducible refine Kd.C_drewN ?_ _)|(with_reducible refine Kd.C_drew ?_)));(case side2=>exact a2.1);rintro e w' ⟨rfl,⟨nd,rfl⟩⟩;refine ⟨_,rfl,?_⟩));go_ret;exact ⟨by first|rfl|(simp [errW_none,errW_some] <;> rfl)|(simp [*,errW_none,errW_some] <;> rfl),by repeat (first|(with_reducible first|exact G.1|apply below_alloc|apply pw_below_drewN|apply below_drew1)|exact G.1)⟩);· (replace b9:=Bool.eq_false_iff.mpr b9;subst b9;have H1:(bellpullref05_Wide.l1 k2 U D F (wrap64 (B + 1)))=some r:=by rw [if_neg (show ¬ (false=true) by decide)] at H;exact H);clear H;have H:=H1;clear H1;have H':=mk0 H;clear H;obtain ⟨g9,h0,f7⟩:=Kd.N_slice L.1;subst f7;have R:0 ≤ (B:Int):=of_decide_eq_true (by assumption);have T:B < (F.length:Int):=of_decide_eq_true (by assumption);obtain ⟨e3,a4,a5,b6,a1,M,O⟩:=at_L1 (Kd.N_reads' L.1).2.2 B R T;cases b6;obtain ⟨e4,a6,a7,X⟩:=Kd.N_get L.1 [] B R (by first|exact T|exact of_decide_eq_true (by assumption)|(have e_:=(Kd.N_reads' L.1).1;omega));obtain ⟨d3,d4,rfl,I,J⟩:=Kd.FK_slice_open a7;have E:=X 0 _ rfl;rw [Nat.add_zero,show ((Kd.slice 3 (Kd.int .i64))).sz=1 from rfl,Nat.mul_one] at E;replace E:=Option.some.inj (E.symm.trans a1);injection E with hva_ hvn_ hvc_;rw [hva_] at J;rw [hvc_] at I;have d5:=mk0 (show Kd.V (Kd.int .i64) 3 _ w.heap.size _ _ (rd_L1 F B) from Kd.V_mk I J);clear hva_ hvn_ hvc_ J I;clear X a6;have Q:=mk0 O;have a2:=mk0 M;clear O M;replace R:=eq_true R;replace T:=eq_true T;go_wp2_with (first|((with_reducible refine gate_callee (f:=85) rfl ?_);refine goesL_ (some 32) rfl rfl Try.func85 (by kernel_rfl) rfl #[.slice a4 (rd_L1 F B).length a5,.int .i64 20] rfl (by (try simp only [m0_,m1_,m2_]);first|done|rfl|(simp only [l0_,l1_];rfl)) ?_;(with_reducible refine (bellpullref05_wide.calls k2 _ _ (rd_L1 F B) 20 false _ ?side1 ?side2 f2.1).mono ?_);(case side1=>repeat (first|exact (by repeat (first|(with_reducible exact Q.1)|(with_reducible refine Kd.C_alloc ?_ _)|(with_reducible refine Kd.C_drewN ?_ _)|(with_reducible refine Kd.C_drew ?_)|exact Q.1))|(with_reducible refine Kd.C_alloc ?_ _)|(with_reducible refine Kd.C_drewN ?_ _)|(with_reducible refine Kd.C_drew ?_)));(case side2=>exact a2.1);rintro e w' ⟨rfl,⟨nd,rfl⟩⟩;refine ⟨_,rfl,?_⟩));go_roundg k2;(case measure=>have:=b7.1;have:=b8.1;omega);case rel=>exact ⟨(wrap64 (B + 1)),(by first|rfl|(simp;done)|(simp [*];done)),H',⟨by have:=b7.1;have:=b8.1;omega⟩,⟨by (with_reducible repeat (first|apply Kd.N_alloc|apply Kd.N_drewN|apply Kd.N_drew));exact L.1⟩,⟨by repeat (first|(with_reducible first|exact G.1|apply below_alloc|apply pw_below_drewN|apply below_drew1)|exact G.1)⟩⟩);· rw [if_neg c10] at H;exact absurd H (by simp));· rw [if_neg c9] at H;have c9b0:decide (B < (F.length:Int))=false:=decide_eq_false c9;clear c9;have H':=mk0 H;clear H;obtain ⟨h1,h2,f8⟩:=Kd.N_slice L.1;subst f8;go_wp2;go_roundg k2;(case measure=>have:=b7.1;have:=b8.1;omega);case rel=>exact ⟨(wrap64 (D + 1)),(by first|rfl|(simp;done)|(simp [*];done)),H',⟨by have:=b7.1;have:=b8.1;omega⟩,⟨by exact G.1⟩⟩
     · rw [if_neg c6] at H;exact absurd H (by simp)
    · rw [if_neg c5] at H;have c5b0:decide (D < (U.length:Int))=false:=decide_eq_false c5;clear c5;obtain rfl:=Option.some.inj H;go_wp2;go_ret;exact ⟨by first|rfl|(simp [errW_none,errW_some] <;> rfl)|(simp [*,errW_none,errW_some] <;> rfl),by exact G.1⟩
 · (replace c4:=Bool.eq_false_iff.mpr c4;subst c4;have H1:(some true)=some r:=by rw [if_neg (show ¬ (false=true) by decide)] at H;exact H);clear H;have H:=H1;clear H1;obtain rfl:=Option.some.inj H;go_enter Try.func49,Try.ntmps49;go_wp2_with (first|((with_reducible refine gate_callee (f:=20) rfl ?_);refine goesL_ (some 9) rfl rfl Try.func20 (by kernel_rfl) rfl #[.int .i64 a0,.int .i64 1,.int .i64 3] rfl (by (try simp only [m0_,m1_,m2_]);first|done|rfl|(simp only [l0_,l1_];rfl)) ?_;(with_reducible refine (bellpullref01_In.calls a0 1 3 false _ A3.1).mono ?_);rintro e w' ⟨rfl,⟨nd,rfl⟩⟩;refine ⟨_,rfl,?_⟩));go_ret;exact ⟨by first|rfl|(simp [errW_none,errW_some] <;> rfl)|(simp [*,errW_none,errW_some] <;> rfl),by repeat (first|(with_reducible first|exact G.1|apply below_alloc|apply pw_below_drewN|apply below_drew1)|exact G.1)⟩
end Go.Proofs.Ytkonljiembcdlaa.PC
namespace Go.Proofs.Ytkonljiembcdlaa.PC
open Go.Proofs.MyWords Go.RowKit Go.Proofs.YtkonljiembcdlaaW.PrintWords Go.Proofs.YtkonljiembcdlaaW.PrintLast Go.Proofs.YtkonljiembcdlaaW.PrintMore
attribute [local go_sem] max2_int min2_int max_two min_two max_three min_three max_four min_four   -- for this text's walks alone
set_option linter.unusedVariables false
set_option linter.unusedSimpArgs false
attribute [local go_sem] eqGuard_slices eqlnil23 neqnil23 eqlnil58 neqnil58
mutual
def bellpullref05_Odd.l0:Nat → Int → List (S60) → Int → Option (Bool)
  | 0,_,_,_=>none
  | k + 1,x0,x1,x5=>if x5 < (x1.length:Int) then (if 0 ≤ x5 then ((bellpullref05_vectors.f ((rd_T60 x1 x5).f0) ((rd_T60 x1 x5).f1)).bind fun t395=>(bellpullref05_Odd.l1 k x0 x1 x5 t395 0)) else (none)) else (some false)
def bellpullref05_Odd.l1:Nat → Int → List (S60) → Int → List (List Int) → Int → Option (Bool)
  | 0,_,_,_,_,_=>none
  | k + 1,x0,x1,x5,x6,x7=>if x7 < (x6.length:Int) then (if 0 ≤ x7 then (if ((rd_L1 x6 x7).length:Int)=x0 then (bellpullref05_Odd.l1 k x0 x1 x5 x6 (wrap64 (x7 + 1))) else (some true)) else (none)) else (bellpullref05_Odd.l0 k x0 x1 (wrap64 (x5 + 1)))
end
def bellpullref05_Odd.f (k:Nat) (a0:Int) (l1:List (S60)):Option (Bool):=bellpullref05_Odd.l0 k a0 l1 0
set_option maxHeartbeats 8000000 in
set_option maxRecDepth 100000 in
theorem bellpullref05_Odd.calls (k:Nat) (a0:Int) (A1:Option Addr) (c1:Nat) (Y:List (S60)) (r:Bool) (w:World) (d9:Kd.C k60 w A1 Y.length Y) (e0:Y.length ≤ c1) (h:bellpullref05_Odd.f k a0 Y=some r) :
    Calls Try.prog 50 #[.int .i64 a0,.slice A1 Y.length c1] w fun e w'=>e=.returned (.bool r)∧Below w.heap.size w w':=by
 have f3:=Try.underlying60;have e9:=mk0 d9;have g3:=mk0 e0;clear d9 e0;have J:=mk0 (Below.refl w.heap.size w);have H:(bellpullref05_Odd.l0 k a0 Y 0)=some r:=h;clear h;have H':=mk0 H;clear H;go_enter Try.func50,Try.ntmps50;go_wp2;go_loopg [5] k (fun kq v5 w'=>∃ (D:Int),v5=.int .i64 D∧Aside0 (bellpullref05_Odd.l0 kq a0 Y D=some r)∧Aside0 (kq ≤ k)∧Aside0 (Below w.heap.size w w'));case atStart=>exact ⟨(0),(by first|rfl|(simp;done)|(simp [*];done)),H',⟨Nat.le_refl _⟩,⟨by exact J.1⟩⟩
 case round =>
  (clear H';try clear c1);try clear p2
  obtain ⟨D,rfl,HA,b1,J⟩:=hrel;cases gk with
  | zero=>exact absurd HA.1 (by simp [bellpullref05_Odd.l0])
  | succ k1 =>
   have H:=HA.1;clear HA;simp only [bellpullref05_Odd.l0] at H;by_cases c3:D < (Y.length:Int)
   ·
    rw [if_pos c3] at H;have c3b0:decide (D < (Y.length:Int))=true:=decide_eq_true c3;clear c3;by_cases c4:0 ≤ D
    ·
     rw [if_pos c4] at H;have c4b0:decide (0 ≤ D)=true:=decide_eq_true c4;clear c4;replace H:=Option.bind_eq_some_iff.mp H;obtain ⟨F,e1,H⟩:=H;(try dsimp only at H);have A5:=mk0 e1;clear e1;have H':=mk0 H;clear H;have a8:0 ≤ (D:Int):=of_decide_eq_true (by assumption);have a9:D < (Y.length:Int):=of_decide_eq_true (by assumption);obtain ⟨f2,c6,d0,d1,d2,e3,U,X,a4,a5,a6,a7⟩:=at_T60 e9.1 D a8 a9;cases e3;replace U:=bd_ J U;replace X:=bd_ J X;have b3:=mk0 a5;have b4:=mk0 a4;clear a5 a4;have b5:=mk0 a7;have b6:=mk0 a6;clear a7 a6;replace a8:=eq_true a8;replace a9:=eq_true a9;go_wp2_with (first|((with_reducible refine gate_callee (f:=75) rfl ?_);refine goesL_ (some 18) rfl rfl Try.func75 (by kernel_rfl) rfl #[.agg #[.slice c6 ((rd_T60 Y D).f0).length d0,.slice d1 ((rd_T60 Y D).f1).length d2]] rfl (by (try simp only [m0_,m1_,m2_]);first|done|rfl|(simp only [l0_,l1_];rfl)) ?_;(with_reducible refine (bellpullref05_vectors.calls (fun k_=>k_ < w.heap.size) _ _ ((rd_T60 Y D).f0) (fun k_=>k_ < w.heap.size) _ _ ((rd_T60 Y D).f1) F _ ?side1 ?side2 A5.1).mono ?_);(case side1=>exact Kd.V_mk b4.1 (Kd.F_below (Kd.C_F (Kd.heap_int .i64) b3.1) J.1));(case side2=>exact Kd.V_mk b6.1 (Kd.F_below (Kd.C_F (Kd.heap_slice 3 (Kd.heap_int .i64)) b5.1) J.1));rintro e w6 ⟨e4,rfl,e2,hb⟩;refine ⟨_,rfl,?_⟩;have d6:=mk0 (Kd.N_lower (Kd.N_mono (ok':=fun k_=>True) e2 (fun k_ hk_=>trivial)) (below_size J.1));replace J:=bst J hb;(try clear hb);(try clear e2)));go_loopg [7] k1 (fun kq v7 w'=>∃ (B:Int),v7=.int .i64 B∧Aside0 (bellpullref05_Odd.l1 kq a0 Y D F B=some r)∧Aside0 (kq ≤ k1)∧Aside0 (Kd.N (Kd.slice 3 (Kd.int .i64)) 23 w' w.heap.size (fun _=>True) e4 F)∧Aside0 (Below w.heap.size w w'));case atStart=>exact ⟨(0),(by first|rfl|(simp;done)|(simp [*];done)),H',⟨Nat.le_refl _⟩,⟨by exact d6.1⟩,⟨by exact J.1⟩⟩
     case round =>
      (clear H';try clear c1);(try clear p2);(try clear c3);(try clear c3b0);(try clear p3);(try clear q3);(try clear hx3);(try clear c4);(try clear c4b0);(try clear c5);(try clear U);(try clear X);(try clear p2);(try clear a8);try clear a9
      obtain ⟨B,rfl,HA,b2,L,J⟩:=hrel;cases gk with
      | zero=>exact absurd HA.1 (by simp [bellpullref05_Odd.l1])
      | succ k2 =>have H:=HA.1;clear HA;simp only [bellpullref05_Odd.l1] at H;by_cases c7:B < (F.length:Int);(· rw [if_pos c7] at H;have c7b0:decide (B < (F.length:Int))=true:=decide_eq_true c7;clear c7;by_cases c8:0 ≤ B;(· rw [if_pos c8] at H;have c8b0:decide (0 ≤ B)=true:=decide_eq_true c8;clear c8;by_cases c9:((rd_L1 F B).length:Int)=a0;(· rw [if_pos c9] at H;have c9b0:(((rd_L1 F B).length:Int) == a0)=true:=beq_iff_eq.mpr c9;have c9b1:(((rd_L1 F B).length:Int) != a0)=false:=bne_eq_false_iff_eq.mpr c9;clear c9;have H':=mk0 H;clear H;obtain ⟨f7,f8,e5⟩:=Kd.N_slice L.1;subst e5;have Q:0 ≤ (B:Int):=of_decide_eq_true (by assumption);have R:B < (F.length:Int):=of_decide_eq_true (by assumption);obtain ⟨d7,d3,d4,b0,Z,M,O⟩:=at_L1 (Kd.N_reads' L.1).2.2 B Q R;cases b0;obtain ⟨d8,a1,a2,T⟩:=Kd.N_get L.1 [] B Q (by first|exact R|exact of_decide_eq_true (by assumption)|(have e_:=(Kd.N_reads' L.1).1;omega));obtain ⟨b7,b8,rfl,G,I⟩:=Kd.FK_slice_open a2;have E:=T 0 _ rfl;rw [Nat.add_zero,show ((Kd.slice 3 (Kd.int .i64))).sz=1 from rfl,Nat.mul_one] at E;replace E:=Option.some.inj (E.symm.trans Z);injection E with hva_ hvn_ hvc_;rw [hva_] at I;rw [hvc_] at G;have b9:=mk0 (show Kd.V (Kd.int .i64) 3 _ w.heap.size _ _ (rd_L1 F B) from Kd.V_mk G I);clear hva_ hvn_ hvc_ I G;clear T a1;have c0:=mk0 O;have c2:=mk0 M;clear O M;replace Q:=eq_true Q;replace R:=eq_true R;go_wp2;go_roundg k2;(case measure=>have:=b1.1;have:=b2.1;omega);case rel=>exact ⟨(wrap64 (B + 1)),(by first|rfl|(simp;done)|(simp [*];done)),H',⟨by have:=b1.1;have:=b2.1;omega⟩,⟨by exact L.1⟩,⟨by exact J.1⟩⟩);· rw [if_neg c9] at H;have c9b0:(((rd_L1 F B).length:Int) == a0)=false:=beq_eq_false_iff_ne.mpr c9;have c9b1:(((rd_L1 F B).length:Int) != a0)=true:=bne_iff_ne.mpr c9;obtain rfl:=Option.some.inj H;obtain ⟨f9,g0,e6⟩:=Kd.N_slice L.1;subst e6;have Q:0 ≤ (B:Int):=of_decide_eq_true (by assumption);have R:B < (F.length:Int):=of_decide_eq_true (by assumption);obtain ⟨d7,d3,d4,b0,Z,M,O⟩:=at_L1 (Kd.N_reads' L.1).2.2 B Q R;cases b0;obtain ⟨d8,a1,a2,T⟩:=Kd.N_get L.1 [] B Q (by first|exact R|exact of_decide_eq_true (by assumption)|(have e_:=(Kd.N_reads' L.1).1;omega));obtain ⟨b7,b8,rfl,G,I⟩:=Kd.FK_slice_open a2;have E:=T 0 _ rfl;rw [Nat.add_zero,show ((Kd.slice 3 (Kd.int .i64))).sz=1 from rfl,Nat.mul_one] at E;replace E:=Option.some.inj (E.symm.trans Z);injection E with hva_ hvn_ hvc_;rw [hva_] at I;rw [hvc_] at G;have b9:=mk0 (show Kd.V (Kd.int .i64) 3 _ w.heap.size _ _ (rd_L1 F B) from Kd.V_mk G I);clear hva_ hvn_ hvc_ I G;clear T a1;have c0:=mk0 O;have c2:=mk0 M;clear O M;replace Q:=eq_true Q;replace R:=eq_true R;go_wp2;go_ret;exact ⟨by first|rfl|(simp [errW_none,errW_some] <;> rfl)|(simp [*,errW_none,errW_some] <;> rfl),by exact J.1⟩);· rw [if_neg c8] at H;exact absurd H (by simp));· rw [if_neg c7] at H;have c7b0:decide (B < (F.length:Int))=false:=decide_eq_false c7;clear c7;have H':=mk0 H;clear H;obtain ⟨g1,g2,e7⟩:=Kd.N_slice L.1;subst e7;go_wp2;go_roundg k2;(case measure=>have:=b1.1;have:=b2.1;omega);case rel=>exact ⟨(wrap64 (D + 1)),(by first|rfl|(simp;done)|(simp [*];done)),H',⟨by have:=b1.1;have:=b2.1;omega⟩,⟨by exact J.1⟩⟩
    · rw [if_neg c4] at H;exact absurd H (by simp)
   · rw [if_neg c3] at H;have c3b0:decide (D < (Y.length:Int))=false:=decide_eq_false c3;clear c3;obtain rfl:=Option.some.inj H;go_wp2;go_ret;exact ⟨by first|rfl|(simp [errW_none,errW_some] <;> rfl)|(simp [*,errW_none,errW_some] <;> rfl),by exact J.1⟩
end Go.Proofs.Ytkonljiembcdlaa.PC
namespace Go.Proofs.Ytkonljiembcdlaa.PC
open Go.Proofs.MyWords Go.RowKit Go.Proofs.YtkonljiembcdlaaW.PrintWords Go.Proofs.YtkonljiembcdlaaW.PrintLast Go.Proofs.YtkonljiembcdlaaW.PrintMore
attribute [local go_sem] max2_int min2_int max_two min_two max_three min_three max_four min_four   -- for this text's walks alone
set_option linter.unusedVariables false
set_option linter.unusedSimpArgs false
attribute [local go_sem] eqGuard_slices eqlnil23 neqnil23 eqlnil58 neqnil58
mutual
def bellpullref05_Check.l0:Nat → Int → List (List (S60)) → Int → Option (Int)
  | 0,_,_,_=>none
  | k + 1,x0,x1,x5=>if x5 < (x1.length:Int) then (if 0 ≤ x5 then ((bellpullref05_Long.f k (rd_L4 x1 x5)).bind fun t400=>(if t400=true then (some 3) else (bellpullref05_Check.l0 k x0 x1 (wrap64 (x5 + 1))))) else (none)) else (bellpullref05_Check.l1 k x0 x1 0)
def bellpullref05_Check.l1:Nat → Int → List (List (S60)) → Int → Option (Int)
  | 0,_,_,_=>none
  | k + 1,x0,x1,x6=>if x6 < (x1.length:Int) then (if 0 ≤ x6 then ((bellpullref05_Wide.f k x0 (rd_L4 x1 x6)).bind fun t402=>(if t402=true then (some 1) else (bellpullref05_Check.l1 k x0 x1 (wrap64 (x6 + 1))))) else (none)) else ((bellpullref01_In.f x0 1 3).bind fun t403=>(if t403=true then (bellpullref05_Check.l2 k x0 x1 0) else (some 1)))
def bellpullref05_Check.l2:Nat → Int → List (List (S60)) → Int → Option (Int)
  | 0,_,_,_=>none
  | k + 1,x0,x1,x7=>if x7 < (x1.length:Int) then (if 0 ≤ x7 then ((bellpullref05_Odd.f k x0 (rd_L4 x1 x7)).bind fun t405=>(if t405=true then (some 2) else (bellpullref05_Check.l2 k x0 x1 (wrap64 (x7 + 1))))) else (none)) else (some 0)
end
def bellpullref05_Check.f (k:Nat) (a0:Int) (l1:List (List (S60))):Option (Int):=bellpullref05_Check.l0 k a0 l1 0
set_option maxHeartbeats 8000000 in
set_option maxRecDepth 100000 in
theorem bellpullref05_Check.calls (k:Nat) (N:Int) (A1:Option Addr) (c1:Nat) (G:List (List (S60))) (r:Int) (w:World) (d9:Kd.C (Kd.slice 60 k60) w A1 G.length G) (e0:G.length ≤ c1) (h:bellpullref05_Check.f k N G=some r) :
    Calls Try.prog 19 #[.int .i64 N,.slice A1 G.length c1] w fun e w'=>e=.returned (.int .i64 r)∧Below w.heap.size w w':=by
 have b6:=mk0 d9;have f6:=mk0 e0;clear d9 e0;have B:=mk0 (Below.refl w.heap.size w);have H:(bellpullref05_Check.l0 k N G 0)=some r:=h;clear h;have H':=mk0 H;clear H;go_enter Try.func19,Try.ntmps19;go_wp2;go_loopg [5] k (fun kq v5 w'=>∃ (D:Int),v5=.int .i64 D∧Aside0 (bellpullref05_Check.l0 kq N G D=some r)∧Aside0 (kq ≤ k)∧Aside0 (Below w.heap.size w w'));case atStart=>exact ⟨(0),(by first|rfl|(simp;done)|(simp [*];done)),H',⟨Nat.le_refl _⟩,⟨by exact B.1⟩⟩
 case round =>
  (clear H';try clear c1);try clear p2
  obtain ⟨D,rfl,HA,b7,B⟩:=hrel;cases gk with
  | zero=>exact absurd HA.1 (by simp [bellpullref05_Check.l0])
  | succ k1 =>
   have H:=HA.1;clear HA;simp only [bellpullref05_Check.l0] at H;by_cases c3:D < (G.length:Int);· rw [if_pos c3] at H;have c3b0:decide (D < (G.length:Int))=true:=decide_eq_true c3;clear c3;by_cases c4:0 ≤ D;(· rw [if_pos c4] at H;have c4b0:decide (0 ≤ D)=true:=decide_eq_true c4;clear c4;replace H:=Option.bind_eq_some_iff.mp H;obtain ⟨e6,e1,H⟩:=H;(try dsimp only at H);have A5:=mk0 e1;clear e1;by_cases c6:e6=true;(· (subst c6;have M:(some 3)=some r:=by rw [if_pos rfl] at H;exact H);clear H;have H:=M;clear M;obtain rfl:=Option.some.inj H;have X:0 ≤ (D:Int):=of_decide_eq_true (by first|(with_reducible assumption)|assumption);have Y:D < (G.length:Int):=of_decide_eq_true (by first|(with_reducible assumption)|assumption);obtain ⟨d6,b0,b1,c0,I,O,Q⟩:=at_L4 b6.1 D X Y;cases c0;replace I:=(B.1.cell (World.block_lt_of_cell? w _ I)).trans I;have a4:=mk0 Q;have a5:=mk0 O;clear Q O;replace X:=eq_true X;replace Y:=eq_true Y;go_wp2_with (first|((with_reducible refine gate_callee (f:=48) rfl ?_);refine goesL_ (some 18) rfl rfl Try.func48 (by kernel_rfl) rfl #[.slice b0 (rd_L4 G D).length b1] rfl (by (try simp only [m0_,m1_,m2_]);first|done|rfl|(simp only [l0_,l1_];rfl)) ?_;(with_reducible refine (bellpullref05_Long.calls k1 _ _ (rd_L4 G D) true _ ?side1 ?side2 A5.1).mono ?_);(case side1=>repeat (first|exact (Kd.C_below a4.1 B.1)|(with_reducible refine Kd.C_alloc ?_ _)|(with_reducible refine Kd.C_drewN ?_ _)|(with_reducible refine Kd.C_drew ?_)));(case side2=>exact a5.1);rintro e w' ⟨rfl,⟨nd,rfl⟩⟩;refine ⟨_,rfl,?_⟩));go_ret;exact ⟨by first|rfl|(simp [errW_none,errW_some] <;> rfl)|(simp [*,errW_none,errW_some] <;> rfl),by repeat (first|(with_reducible first|exact B.1|apply below_alloc|apply pw_below_drewN|apply below_drew1)|exact B.1)⟩);· (replace c6:=Bool.eq_false_iff.mpr c6;subst c6;have M:(bellpullref05_Check.l0 k1 N G (wrap64 (D + 1)))=some r:=by rw [if_neg (show ¬ (false=true) by decide)] at H;exact H);clear H;have H:=M;clear M;have H':=mk0 H;clear H;have X:0 ≤ (D:Int):=of_decide_eq_true (by assumption);have Y:D < (G.length:Int):=of_decide_eq_true (by assumption);obtain ⟨d6,b0,b1,c0,I,O,Q⟩:=at_L4 b6.1 D X Y;cases c0;replace I:=bd_ B I;have a4:=mk0 Q;have a5:=mk0 O;clear Q O;replace X:=eq_true X;replace Y:=eq_true Y;go_wp2_with (first|((with_reducible refine gate_callee (f:=48) rfl ?_);refine goesL_ (some 18) rfl rfl Try.func48 (by kernel_rfl) rfl #[.slice b0 (rd_L4 G D).length b1] rfl (by (try simp only [m0_,m1_,m2_]);first|done|rfl|(simp only [l0_,l1_];rfl)) ?_;(with_reducible refine (bellpullref05_Long.calls k1 _ _ (rd_L4 G D) false _ ?side1 ?side2 A5.1).mono ?_);(case side1=>repeat (first|exact (Kd.C_below a4.1 B.1)|(with_reducible refine Kd.C_alloc ?_ _)|(with_reducible refine Kd.C_drewN ?_ _)|(with_reducible refine Kd.C_drew ?_)));(case side2=>exact a5.1);rintro e w' ⟨rfl,⟨nd,rfl⟩⟩;refine ⟨_,rfl,?_⟩));go_roundg k1;(case measure=>have:=b7.1;omega);case rel=>exact ⟨(wrap64 (D + 1)),(by first|rfl|(simp;done)|(simp [*];done)),H',⟨by have:=b7.1;omega⟩,⟨by repeat (first|(with_reducible first|exact B.1|apply below_alloc|apply pw_below_drewN|apply below_drew1)|exact B.1)⟩⟩);· rw [if_neg c4] at H;exact absurd H (by simp)
   ·
    rw [if_neg c3] at H;have c3b0:decide (D < (G.length:Int))=false:=decide_eq_false c3;clear c3;have H':=mk0 H;clear H;go_wp2;go_loopg [6] k1 (fun kq v6 w'=>∃ (E:Int),v6=.int .i64 E∧Aside0 (bellpullref05_Check.l1 kq N G E=some r)∧Aside0 (kq ≤ k1)∧Aside0 (Below w.heap.size w w'));case atStart=>exact ⟨(0),(by first|rfl|(simp;done)|(simp [*];done)),H',⟨Nat.le_refl _⟩,⟨by exact B.1⟩⟩
    case round =>
     (clear H';try clear c1);(try clear p2);(try clear c3);(try clear c3b0);(try clear p3);(try clear q3);(try clear hx3);(try clear c4);(try clear c4b0);(try clear c6);(try clear p6);(try clear I);(try clear p2);(try clear X);try clear Y
     obtain ⟨E,rfl,HA,d0,B⟩:=hrel;cases gk with
     | zero=>exact absurd HA.1 (by simp [bellpullref05_Check.l1])
     | succ k2 =>
      have H:=HA.1;clear HA;simp only [bellpullref05_Check.l1] at H;by_cases c7:E < (G.length:Int);· rw [if_pos c7] at H;have c7b0:decide (E < (G.length:Int))=true:=decide_eq_true c7;clear c7;by_cases c8:0 ≤ E;(· rw [if_pos c8] at H;have c8b0:decide (0 ≤ E)=true:=decide_eq_true c8;clear c8;replace H:=Option.bind_eq_some_iff.mp H;obtain ⟨e7,e2,H⟩:=H;(try dsimp only at H);have A9:=mk0 e2;clear e2;by_cases b8:e7=true;(· (subst b8;have M:(some 1)=some r:=by rw [if_pos rfl] at H;exact H);clear H;have H:=M;clear M;obtain rfl:=Option.some.inj H;have Z:0 ≤ (E:Int):=of_decide_eq_true (by assumption);have a1:E < (G.length:Int):=of_decide_eq_true (by assumption);obtain ⟨d7,b2,b3,c5,J,R,T⟩:=at_L4 b6.1 E Z a1;cases c5;replace J:=bd_ B J;have a6:=mk0 T;have a7:=mk0 R;clear T R;replace Z:=eq_true Z;replace a1:=eq_true a1;go_wp2_with (first|((with_reducible refine gate_callee (f:=49) rfl ?_);refine goesL_ (some 30) rfl rfl Try.func49 (by kernel_rfl) rfl #[.int .i64 N,.slice b2 (rd_L4 G E).length b3] rfl (by (try simp only [m0_,m1_,m2_]);first|done|rfl|(simp only [l0_,l1_];rfl)) ?_;(with_reducible refine (bellpullref05_Wide.calls k2 N _ _ (rd_L4 G E) true _ ?side1 ?side2 A9.1).mono ?_);(case side1=>repeat (first|exact (Kd.C_below a6.1 B.1)|(with_reducible refine Kd.C_alloc ?_ _)|(with_reducible refine Kd.C_drewN ?_ _)|(with_reducible refine Kd.C_drew ?_)));(case side2=>exact a7.1);rintro e f7 ⟨rfl,hb⟩;refine ⟨_,rfl,?_⟩;replace B:=mk0 (below_step (by exact B.1) hb);(try clear hb)));go_ret;exact ⟨by first|rfl|(simp [errW_none,errW_some] <;> rfl)|(simp [*,errW_none,errW_some] <;> rfl),by exact B.1⟩);· (replace b8:=Bool.eq_false_iff.mpr b8;subst b8;have M:(bellpullref05_Check.l1 k2 N G (wrap64 (E + 1)))=some r:=by rw [if_neg (show ¬ (false=true) by decide)] at H;exact H);clear H;have H:=M;clear M;have H':=mk0 H;clear H;have Z:0 ≤ (E:Int):=of_decide_eq_true (by assumption);have a1:E < (G.length:Int):=of_decide_eq_true (by assumption);obtain ⟨d7,b2,b3,c5,J,R,T⟩:=at_L4 b6.1 E Z a1;cases c5;replace J:=bd_ B J;have a6:=mk0 T;have a7:=mk0 R;clear T R;replace Z:=eq_true Z;replace a1:=eq_true a1;go_wp2_with (first|((with_reducible refine gate_callee (f:=49) rfl ?_);refine goesL_ (some 30) rfl rfl Try.func49 (by kernel_rfl) rfl #[.int .i64 N,.slice b2 (rd_L4 G E).length b3] rfl (by (try simp only [m0_,m1_,m2_]);first|done|rfl|(simp only [l0_,l1_];rfl)) ?_;(with_reducible refine (bellpullref05_Wide.calls k2 N _ _ (rd_L4 G E) false _ ?side1 ?side2 A9.1).mono ?_);(case side1=>repeat (first|exact (Kd.C_below a6.1 B.1)|(with_reducible refine Kd.C_alloc ?_ _)|(with_reducible refine Kd.C_drewN ?_ _)|(with_reducible refine Kd.C_drew ?_)));(case side2=>exact a7.1);rintro e f8 ⟨rfl,hb⟩;refine ⟨_,rfl,?_⟩;replace B:=mk0 (below_step (by exact B.1) hb);(try clear hb)));go_roundg k2;(case measure=>have:=b7.1;have:=d0.1;omega);case rel=>exact ⟨(wrap64 (E + 1)),(by first|rfl|(simp;done)|(simp [*];done)),H',⟨by have:=b7.1;have:=d0.1;omega⟩,⟨by exact B.1⟩⟩);· rw [if_neg c8] at H;exact absurd H (by simp)
      ·
       rw [if_neg c7] at H;have c7b0:decide (E < (G.length:Int))=false:=decide_eq_false c7;clear c7;replace H:=Option.bind_eq_some_iff.mp H;obtain ⟨e8,d4,H⟩:=H;(try dsimp only at H);have e3:=mk0 d4;clear d4;by_cases b9:e8=true
       ·
        (subst b9;have M:(bellpullref05_Check.l2 k2 N G 0)=some r:=by rw [if_pos rfl] at H;exact H);clear H;have H:=M;clear M;have H':=mk0 H;clear H;go_wp2_with (first|((with_reducible refine gate_callee (f:=20) rfl ?_);refine goesL_ (some 32) rfl rfl Try.func20 (by kernel_rfl) rfl #[.int .i64 N,.int .i64 1,.int .i64 3] rfl (by (try simp only [m0_,m1_,m2_]);first|done|rfl|(simp only [l0_,l1_];rfl)) ?_;(with_reducible refine (bellpullref01_In.calls N 1 3 true _ e3.1).mono ?_);rintro e w' ⟨rfl,⟨nd,rfl⟩⟩;refine ⟨_,rfl,?_⟩));go_loopg [7] k2 (fun kq v7 w'=>∃ (F:Int),v7=.int .i64 F∧Aside0 (bellpullref05_Check.l2 kq N G F=some r)∧Aside0 (kq ≤ k2)∧Aside0 (Below w.heap.size w w'));case atStart=>exact ⟨(0),(by first|rfl|(simp;done)|(simp [*];done)),H',⟨Nat.le_refl _⟩,⟨by repeat (first|(with_reducible first|exact B.1|apply below_alloc|apply pw_below_drewN|apply below_drew1)|exact B.1)⟩⟩
        case round =>
         (clear H';try clear c1);(try clear c2);(try clear p2);(try clear c3);(try clear c3b0);(try clear p3);(try clear q3);(try clear hx3);(try clear c4);(try clear c4b0);(try clear p4);(try clear q4);(try clear hx4);(try clear c6);(try clear p6);(try clear c7);(try clear c7b0);(try clear c8);(try clear c8b0);(try clear b8);(try clear b9);(try clear I);(try clear J);(try clear p2);(try clear p3);(try clear X);(try clear Z);(try clear p6);(try clear q3);(try clear Y);try clear a1
         obtain ⟨F,rfl,HA,e4,B⟩:=hrel;cases gk with
         | zero=>exact absurd HA.1 (by simp [bellpullref05_Check.l2])
         | succ k3 =>have H:=HA.1;clear HA;simp only [bellpullref05_Check.l2] at H;by_cases c15:F < (G.length:Int);(· rw [if_pos c15] at H;have c15b0:decide (F < (G.length:Int))=true:=decide_eq_true c15;clear c15;by_cases c16:0 ≤ F;(· rw [if_pos c16] at H;have c16b0:decide (0 ≤ F)=true:=decide_eq_true c16;clear c16;replace H:=Option.bind_eq_some_iff.mp H;obtain ⟨e9,d5,H⟩:=H;(try dsimp only at H);have e5:=mk0 d5;clear d5;by_cases d1:e9=true;(· (subst d1;have M:(some 2)=some r:=by rw [if_pos rfl] at H;exact H);clear H;have H:=M;clear M;obtain rfl:=Option.some.inj H;have a2:0 ≤ (F:Int):=of_decide_eq_true (by assumption);have a3:F < (G.length:Int):=of_decide_eq_true (by assumption);obtain ⟨d8,b4,b5,c9,L,U,V⟩:=at_L4 b6.1 F a2 a3;cases c9;replace L:=bd_ B L;have a8:=mk0 V;have a9:=mk0 U;clear V U;replace a2:=eq_true a2;replace a3:=eq_true a3;go_wp2_with (first|((with_reducible refine gate_callee (f:=50) rfl ?_);refine goesL_ (some 45) rfl rfl Try.func50 (by kernel_rfl) rfl #[.int .i64 N,.slice b4 (rd_L4 G F).length b5] rfl (by (try simp only [m0_,m1_,m2_]);first|done|rfl|(simp only [l0_,l1_];rfl)) ?_;(with_reducible refine (bellpullref05_Odd.calls k3 N _ _ (rd_L4 G F) true _ ?side1 ?side2 e5.1).mono ?_);(case side1=>repeat (first|exact (Kd.C_below a8.1 B.1)|(with_reducible refine Kd.C_alloc ?_ _)|(with_reducible refine Kd.C_drewN ?_ _)|(with_reducible refine Kd.C_drew ?_)));(case side2=>exact a9.1);rintro e f9 ⟨rfl,hb⟩;refine ⟨_,rfl,?_⟩;replace B:=mk0 (below_step (by exact B.1) hb);(try clear hb)));go_ret;exact ⟨by first|rfl|(simp [errW_none,errW_some] <;> rfl)|(simp [*,errW_none,errW_some] <;> rfl),by exact B.1⟩);· (replace d1:=Bool.eq_false_iff.mpr d1;subst d1;have M:(bellpullref05_Check.l2 k3 N G (wrap64 (F + 1)))=some r:=by rw [if_neg (show ¬ (false=true) by decide)] at H;exact H);clear H;have H:=M;clear M;have H':=mk0 H;clear H;have a2:0 ≤ (F:Int):=of_decide_eq_true (by assumption);have a3:F < (G.length:Int):=of_decide_eq_true (by assumption);obtain ⟨d8,b4,b5,c9,L,U,V⟩:=at_L4 b6.1 F a2 a3;cases c9;replace L:=bd_ B L;have a8:=mk0 V;have a9:=mk0 U;clear V U;replace a2:=eq_true a2;replace a3:=eq_true a3;go_wp2_with (first|((with_reducible refine gate_callee (f:=50) rfl ?_);refine goesL_ (some 45) rfl rfl Try.func50 (by kernel_rfl) rfl #[.int .i64 N,.slice b4 (rd_L4 G F).length b5] rfl (by (try simp only [m0_,m1_,m2_]);first|done|rfl|(simp only [l0_,l1_];rfl)) ?_;(with_reducible refine (bellpullref05_Odd.calls k3 N _ _ (rd_L4 G F) false _ ?side1 ?side2 e5.1).mono ?_);(case side1=>repeat (first|exact (Kd.C_below a8.1 B.1)|(with_reducible refine Kd.C_alloc ?_ _)|(with_reducible refine Kd.C_drewN ?_ _)|(with_reducible refine Kd.C_drew ?_)));(case side2=>exact a9.1);rintro e g0 ⟨rfl,hb⟩;refine ⟨_,rfl,?_⟩;replace B:=mk0 (below_step (by exact B.1) hb);(try clear hb)));go_roundg k3;(case measure=>have:=b7.1;have:=d0.1;have:=e4.1;omega);case rel=>exact ⟨(wrap64 (F + 1)),(by first|rfl|(simp;done)|(simp [*];done)),H',⟨by have:=b7.1;have:=d0.1;have:=e4.1;omega⟩,⟨by exact B.1⟩⟩);· rw [if_neg c16] at H;exact absurd H (by simp));· rw [if_neg c15] at H;have c15b0:decide (F < (G.length:Int))=false:=decide_eq_false c15;clear c15;obtain rfl:=Option.some.inj H;go_wp2;go_ret;exact ⟨by first|rfl|(simp [errW_none,errW_some] <;> rfl)|(simp [*,errW_none,errW_some] <;> rfl),by exact B.1⟩
       · (replace b9:=Bool.eq_false_iff.mpr b9;subst b9;have M:(some 1)=some r:=by rw [if_neg (show ¬ (false=true) by decide)] at H;exact H);clear H;have H:=M;clear M;obtain rfl:=Option.some.inj H;go_wp2_with (first|((with_reducible refine gate_callee (f:=20) rfl ?_);refine goesL_ (some 32) rfl rfl Try.func20 (by kernel_rfl) rfl #[.int .i64 N,.int .i64 1,.int .i64 3] rfl (by (try simp only [m0_,m1_,m2_]);first|done|rfl|(simp only [l0_,l1_];rfl)) ?_;(with_reducible refine (bellpullref01_In.calls N 1 3 false _ e3.1).mono ?_);rintro e w' ⟨rfl,⟨nd,rfl⟩⟩;refine ⟨_,rfl,?_⟩));go_ret;exact ⟨by first|rfl|(simp [errW_none,errW_some] <;> rfl)|(simp [*,errW_none,errW_some] <;> rfl),by repeat (first|(with_reducible first|exact B.1|apply below_alloc|apply pw_below_drewN|apply below_drew1)|exact B.1)⟩
end Go.Proofs.Ytkonljiembcdlaa.PC
namespace Go.Proofs.Ytkonljiembcdlaa.PC
open Go.Proofs.MyWords Go.RowKit Go.Proofs.YtkonljiembcdlaaW.PrintWords Go.Proofs.YtkonljiembcdlaaW.PrintLast Go.Proofs.YtkonljiembcdlaaW.PrintMore
attribute [local go_sem] max2_int min2_int max_two min_two max_three min_three max_four min_four   -- for this text's walks alone
set_option linter.unusedVariables false
set_option linter.unusedSimpArgs false
attribute [local go_sem] eqGuard_slices eqlnil23 neqnil23 eqlnil58 neqnil58
def count_Sum.f (k:Nat) (a0:Int) (l1:List (S60)) (l2:List (S60)):Option ((List (S60)) × Int):=(count_check.f k a0 (([l1,l2]:List (List (S60))))).bind fun t838=>(if t838=0 then ((count_sum.f k l1 l2).bind fun t839=>((count_full.f k a0 t839).bind fun bt842=>(some (bt842.1,bt842.2)))) else (some (([]:List (S60)),t838)))
set_option maxHeartbeats 8000000 in
set_option maxRecDepth 100000 in
theorem count_Sum.calls (k:Nat) (Y:Int) (C:Nat → Prop) (A1:Option Addr) (c1:Nat) (M:List (S60)) (D:Nat → Prop) (A2:Option Addr) (c2:Nat) (O:List (S60)) (r1:List (S60)) (r2:Int) (w:World) (d0:Kd.V k60 60 w w.heap.size (fun k_=>C k_) (.slice A1 M.length c1) M) (d1:Kd.V k60 60 w w.heap.size (fun k_=>D k_) (.slice A2 O.length c2) O) (h:count_Sum.f k Y M O=some (r1,r2)) :
    Calls Try.prog 36 #[.int .i64 Y,.slice A1 M.length c1,.slice A2 O.length c2] w fun e w'=>∃ b3:Value,e=.returned (.tuple #[b3,.int .i64 r2])∧Kd.V k60 60 w' w.heap.size (fun k_=>((C k_ ∨ D k_) ∨ w.heap.size ≤ k_)) b3 r1∧Below w.heap.size w w':=by
 have E:=mk0 (show Kd.V k60 60 w w.heap.size (fun k_=>((C k_ ∨ D k_) ∨ w.heap.size ≤ k_)) (.slice A1 M.length c1) M from Kd.V_mono d0 (fun k_ hk=>.inl (.inl hk)));have F:=mk0 (show Kd.V k60 60 w w.heap.size (fun k_=>((C k_ ∨ D k_) ∨ w.heap.size ≤ k_)) (.slice A2 O.length c2) O from Kd.V_mono d1 (fun k_ hk=>.inl (.inr hk)));have I:=mk0 (Below.refl w.heap.size w);have H:((count_check.f k Y (([M,O]:List (List (S60))))).bind fun G=>(if G=0 then ((count_sum.f k M O).bind fun T=>((count_full.f k Y T).bind fun U=>(some (U.1,U.2)))) else (some (([]:List (S60)),G))))=some (r1,r2):=h;clear h;obtain ⟨Q,X⟩:∃ y_:List (List (S60)),y_=(([M,O]:List (List (S60)))):=⟨_,rfl⟩;(replace H:((count_check.f k Y Q).bind fun G=>(if G=0 then ((count_sum.f k M O).bind fun T=>((count_full.f k Y T).bind fun U=>(some (U.1,U.2)))) else (some (([]:List (S60)),G))))=some (r1,r2):=by first|(rw [X];with_reducible exact H)|(have a9:=(Option.bind_some _ _).symm.trans H;rw [X];with_reducible exact a9)|(have a9:=(Option.bind_some _ _).symm.trans H;with_reducible exact a9)|with_reducible exact H|(rw [X];exact H)|exact H);have Z:=mk0 X;clear X;replace H:=Option.bind_eq_some_iff.mp H;obtain ⟨G,b4,H⟩:=H;(try dsimp only at H);have A4:=mk0 b4;clear b4;by_cases c5:G=0;(· rw [if_pos c5] at H;have c5b0:(G == 0)=true:=beq_iff_eq.mpr c5;have c5b1:(G != 0)=false:=bne_eq_false_iff_eq.mpr c5;clear c5;replace H:=Option.bind_eq_some_iff.mp H;obtain ⟨T,b5,H⟩:=H;(try dsimp only at H);have A6:=mk0 b5;clear b5;replace H:=Option.bind_eq_some_iff.mp H;obtain ⟨⟨b7,b8⟩,b6,H⟩:=H;(try dsimp only at H);have A7:=mk0 b6;clear b6;simp only [Option.some.injEq,Prod.mk.injEq] at H;obtain ⟨rfl,rfl⟩:=H;go_enter Try.func36,Try.ntmps36;go_wp2_with (first|((with_reducible refine gate_dst (N:=12) rfl ?_);refine Kd.N_lit (Kd.slice 60 k60) _ 22 ?hg (N':=12) ?hd (xs:=([M,O]:List (List (S60)))) (inner:=[.slice A1 M.length c1,.slice A2 O.length c2]) (ok:=(fun k_=>((C k_ ∨ D k_) ∨ w.heap.size ≤ k_))) (okp:=(fun k_=>((C k_ ∨ D k_) ∨ w.heap.size ≤ k_))) ?hr ?hp (fun _ hk=>hk) ((show ∀ k_,w.heap.size ≤ k_ → (fun k_=>((C k_ ∨ D k_) ∨ w.heap.size ≤ k_)) k_ from fun k_ hk=>(.inr (Nat.le_trans (below_size I.1) hk))) _ (Nat.le_refl _)) (Below.refl _ _) (Nat.le_refl _) (by simp) ?_;(case hd=>rfl);(case hg=>rfl);(case hr=>first|(go_simp;done)|(go_simp;rfl));(case hp=>exact (Reps.one (show Kd.FK (Kd.slice 60 k60) _ _ M [.slice A1 M.length c1] from (Kd.FK_slice_mk (Kd.V_reads' (Kd.V_mono (e:=0) (base:=0) (ok':=(fun k_=>((C k_ ∨ D k_) ∨ w.heap.size ≤ k_))) (E.1) (fun k_ hk=>hk))).2.1 (Kd.V_F (Kd.V_mono (e:=0) (base:=0) (ok':=(fun k_=>((C k_ ∨ D k_) ∨ w.heap.size ≤ k_))) (E.1) (fun k_ hk=>hk))))) (Reps.one (show Kd.FK (Kd.slice 60 k60) _ _ O [.slice A2 O.length c2] from (Kd.FK_slice_mk (Kd.V_reads' (Kd.V_mono (e:=0) (base:=0) (ok':=(fun k_=>((C k_ ∨ D k_) ∨ w.heap.size ≤ k_))) (F.1) (fun k_ hk=>hk))).2.1 (Kd.V_F (Kd.V_mono (e:=0) (base:=0) (ok':=(fun k_=>((C k_ ∨ D k_) ∨ w.heap.size ≤ k_))) (F.1) (fun k_ hk=>hk))))) (Reps.none _ _))));intro b9 w8 R hb hg_ a2;clear hg_ a2;(first|rw [← Z.1] at R|(simp only [Int.reduceToNat] at R;rw [← Z.1] at R));have B:=mk0 (Kd.N_lower R (below_size I.1));replace E:=mk0 (Kd.V_elder' E.1 (by first|exact Kd.N_base R|exact Kd.S_base R|exact Kd.R_base R) hb);replace F:=mk0 (Kd.V_elder' F.1 (by first|exact Kd.N_base R|exact Kd.S_base R|exact Kd.R_base R) hb);replace I:=bst I hb;clear hb R;obtain ⟨a3,a4,c0⟩:=Kd.N_slice B.1;subst c0)|((with_reducible refine gate_callee (f:=51) rfl ?_);refine goesL_ (some 13) rfl rfl Try.func51 (by kernel_rfl) rfl #[.int .i64 Y,.slice a3 Q.length a4] rfl (by (try simp only [m0_,m1_,m2_]);first|done|rfl|(simp only [l0_,l1_];rfl)) ?_;(with_reducible refine (count_check.calls k Y _ _ Q G _ ?side1 ?side2 A4.1).mono ?_);(case side1=>repeat (first|exact (Kd.N_reads' B.1).2.2|(with_reducible refine Kd.C_alloc ?_ _)|(with_reducible refine Kd.C_drewN ?_ _)|(with_reducible refine Kd.C_drew ?_)));(case side2=>exact (Kd.N_reads' B.1).2.1);rintro e d7 ⟨rfl,hb⟩;refine ⟨_,rfl,?_⟩;replace E:=mk0 (Kd.V_below E.1 hb);replace F:=mk0 (Kd.V_below F.1 hb);replace B:=mk0 (Kd.N_below B.1 hb);replace I:=bst I hb;(try clear hb);(try clear hk))|((with_reducible refine gate_callee (f:=67) rfl ?_);refine goesL_ (some 20) rfl rfl Try.func67 (by kernel_rfl) rfl #[.slice A1 M.length c1,.slice A2 O.length c2] rfl (by (try simp only [m0_,m1_,m2_]);first|done|rfl|(simp only [l0_,l1_];rfl)) ?_;(with_reducible refine (count_sum.calls k _ _ M _ _ O T _ ?side1 ?side2 ?side3 ?side4 A6.1).mono ?_);(case side1=>repeat (first|exact (Kd.V_reads' E.1).2.2|(with_reducible refine Kd.C_alloc ?_ _)|(with_reducible refine Kd.C_drewN ?_ _)|(with_reducible refine Kd.C_drew ?_)));(case side2=>exact (Kd.V_reads' E.1).2.1);(case side3=>repeat (first|exact (Kd.V_reads' F.1).2.2|(with_reducible refine Kd.C_alloc ?_ _)|(with_reducible refine Kd.C_drewN ?_ _)|(with_reducible refine Kd.C_drew ?_)));(case side4=>exact (Kd.V_reads' F.1).2.1);rintro e d8 ⟨d5,rfl,L,hb⟩;refine ⟨_,rfl,?_⟩;have a1:=mk0 (Kd.N_lower (Kd.N_mono (ok':=fun k_=>((C k_ ∨ D k_) ∨ w.heap.size ≤ k_)∧some k_ ≠ (.slice a3 Q.length a4:Value).ownBlock) L (fun k_ hk_=>⟨(.inr (Nat.le_trans (below_size I.1) hk_)),(Kd.fresh' (Kd.N_lt B.1) k_ hk_)⟩)) (below_size I.1));replace E:=mk0 (Kd.V_elder' E.1 (by first|exact Kd.N_base L|exact Kd.S_base L|exact Kd.R_base L) hb);replace F:=mk0 (Kd.V_elder' F.1 (by first|exact Kd.N_base L|exact Kd.S_base L|exact Kd.R_base L) hb);replace B:=mk0 (Kd.N_elder' B.1 (by first|exact Kd.N_base L|exact Kd.S_base L|exact Kd.R_base L) hb);replace I:=bst I hb;(try clear hb);(try clear hk);(try clear L);obtain ⟨c3,c4,c6⟩:=Kd.N_slice a1.1;subst c6)|((with_reducible refine gate_callee (f:=80) rfl ?_);refine goesL_ (some 21) rfl rfl Try.func80 (by kernel_rfl) rfl #[.int .i64 Y,.slice c3 T.length c4] rfl (by (try simp only [m0_,m1_,m2_]);first|done|rfl|(simp only [l0_,l1_];rfl)) ?_;(with_reducible refine (count_full.calls k Y (fun k_=>(((C k_ ∨ D k_) ∨ w.heap.size ≤ k_)∧some k_ ≠ (.slice a3 Q.length a4:Value).ownBlock)) _ _ T b7 b8 _ ?side1 A7.1).mono ?_);(case side1=>exact Kd.N_V (a1.1));rintro e d9 ⟨d6,rfl,L,hb⟩;refine ⟨_,rfl,?_⟩;have b2:=mk0 (Kd.V_lower (Kd.V_mono (ok':=fun k_=>((C k_ ∨ D k_) ∨ w.heap.size ≤ k_)∧some k_ ≠ (.slice a3 Q.length a4:Value).ownBlock) L (fun k_ hk_=>⟨Or.elim hk_ (fun hs_=>hs_.1) (fun hn_=>(.inr (Nat.le_trans (below_size I.1) hn_))),Or.elim hk_ (fun hs_=>hs_.2) (fun hn_=>(Kd.fresh' (Kd.N_lt B.1) k_ hn_))⟩)) (below_size I.1));replace E:=mk0 (Kd.V_below E.1 hb);replace F:=mk0 (Kd.V_below F.1 hb);replace B:=mk0 (Kd.N_below B.1 hb);replace a1:=mk0 (Kd.N_below a1.1 hb);replace I:=bst I hb;(try clear hb);(try clear hk);(try clear L)));go_ret2;exact ⟨_,by first|rfl|(simp [errW_none,errW_some] <;> rfl)|(simp [*,errW_none,errW_some] <;> rfl),by exact Kd.V_mono b2.1 (fun _ hk=>hk.1),by exact I.1⟩);· rw [if_neg c5] at H;have c5b0:(G == 0)=false:=beq_eq_false_iff_ne.mpr c5;have c5b1:(G != 0)=true:=bne_iff_ne.mpr c5;simp only [Option.some.injEq,Prod.mk.injEq] at H;obtain ⟨rfl,rfl⟩:=H;go_enter Try.func36,Try.ntmps36;go_wp2_with (first|((with_reducible refine gate_dst (N:=12) rfl ?_);refine Kd.N_lit (Kd.slice 60 k60) _ 22 ?hg (N':=12) ?hd (xs:=([M,O]:List (List (S60)))) (inner:=[.slice A1 M.length c1,.slice A2 O.length c2]) (ok:=(fun k_=>((C k_ ∨ D k_) ∨ w.heap.size ≤ k_))) (okp:=(fun k_=>((C k_ ∨ D k_) ∨ w.heap.size ≤ k_))) ?hr ?hp (fun _ hk=>hk) ((show ∀ k_,w.heap.size ≤ k_ → (fun k_=>((C k_ ∨ D k_) ∨ w.heap.size ≤ k_)) k_ from fun k_ hk=>(.inr (Nat.le_trans (below_size I.1) hk))) _ (Nat.le_refl _)) (Below.refl _ _) (Nat.le_refl _) (by simp) ?_;(case hd=>rfl);(case hg=>rfl);(case hr=>first|(go_simp;done)|(go_simp;rfl));(case hp=>exact (Reps.one (show Kd.FK (Kd.slice 60 k60) _ _ M [.slice A1 M.length c1] from (Kd.FK_slice_mk (Kd.V_reads' (Kd.V_mono (e:=0) (base:=0) (ok':=(fun k_=>((C k_ ∨ D k_) ∨ w.heap.size ≤ k_))) (E.1) (fun k_ hk=>hk))).2.1 (Kd.V_F (Kd.V_mono (e:=0) (base:=0) (ok':=(fun k_=>((C k_ ∨ D k_) ∨ w.heap.size ≤ k_))) (E.1) (fun k_ hk=>hk))))) (Reps.one (show Kd.FK (Kd.slice 60 k60) _ _ O [.slice A2 O.length c2] from (Kd.FK_slice_mk (Kd.V_reads' (Kd.V_mono (e:=0) (base:=0) (ok':=(fun k_=>((C k_ ∨ D k_) ∨ w.heap.size ≤ k_))) (F.1) (fun k_ hk=>hk))).2.1 (Kd.V_F (Kd.V_mono (e:=0) (base:=0) (ok':=(fun k_=>((C k_ ∨ D k_) ∨ w.heap.size ≤ k_))) (F.1) (fun k_ hk=>hk))))) (Reps.none _ _))));intro b9 e0 J hb hg_ a2;clear hg_ a2;(first|rw [← Z.1] at J|(simp only [Int.reduceToNat] at J;rw [← Z.1] at J));have B:=mk0 (Kd.N_lower J (below_size I.1));replace E:=mk0 (Kd.V_elder' E.1 (by first|exact Kd.N_base J|exact Kd.S_base J|exact Kd.R_base J) hb);replace F:=mk0 (Kd.V_elder' F.1 (by first|exact Kd.N_base J|exact Kd.S_base J|exact Kd.R_base J) hb);replace I:=bst I hb;clear hb J;obtain ⟨c7,c8,c9⟩:=Kd.N_slice B.1;subst c9)|((with_reducible refine gate_callee (f:=51) rfl ?_);refine goesL_ (some 13) rfl rfl Try.func51 (by kernel_rfl) rfl #[.int .i64 Y,.slice c7 Q.length c8] rfl (by (try simp only [m0_,m1_,m2_]);first|done|rfl|(simp only [l0_,l1_];rfl)) ?_;(with_reducible refine (count_check.calls k Y _ _ Q G _ ?side1 ?side2 A4.1).mono ?_);(case side1=>repeat (first|exact (Kd.N_reads' B.1).2.2|(with_reducible refine Kd.C_alloc ?_ _)|(with_reducible refine Kd.C_drewN ?_ _)|(with_reducible refine Kd.C_drew ?_)));(case side2=>exact (Kd.N_reads' B.1).2.1);rintro e e1 ⟨rfl,hb⟩;refine ⟨_,rfl,?_⟩;replace E:=mk0 (Kd.V_below E.1 hb);replace F:=mk0 (Kd.V_below F.1 hb);replace B:=mk0 (Kd.N_below B.1 hb);replace I:=bst I hb;(try clear hb);(try clear hk)));go_ret2;exact ⟨_,by first|rfl|(simp [errW_none,errW_some] <;> rfl)|(simp [*,errW_none,errW_some] <;> rfl),Kd.N_V (base:=0) (by first|exact Kd.R_nil _ _ _ _ _|exact Kd.N_nil _ _ _ _ _|exact Kd.V_nil _ _ _ _ _|exact Kd.Q_nil _ _ _ _ _|exact Kd.S_nil _ _ _ _ _),by exact I.1⟩
end Go.Proofs.Ytkonljiembcdlaa.PC
namespace Go.Proofs.Ytkonljiembcdlaa.PC
open Go.Proofs.MyWords Go.RowKit Go.Proofs.YtkonljiembcdlaaW.PrintWords Go.Proofs.YtkonljiembcdlaaW.PrintLast Go.Proofs.YtkonljiembcdlaaW.PrintMore
attribute [local go_sem] max2_int min2_int max_two min_two max_three min_three max_four min_four   -- for this text's walks alone
set_option linter.unusedVariables false
set_option linter.unusedSimpArgs false
attribute [local go_sem] eqGuard_slices eqlnil23 neqnil23 eqlnil58 neqnil58
def count_Star.f (k:Nat) (a0:Int) (l1:List (S60)):Option ((List (S60)) × Int):=(count_check.f k a0 (([l1]:List (List (S60))))).bind fun t902=>(if t902=0 then ((count_star.f k a0 l1).bind fun t903=>((count_full.f k a0 t903).bind fun bt906=>(some (bt906.1,bt906.2)))) else (some (([]:List (S60)),t902)))
set_option maxHeartbeats 8000000 in
set_option maxRecDepth 100000 in
theorem count_Star.calls (k:Nat) (M:Int) (D:Nat → Prop) (Z:Option Addr) (c1:Nat) (G:List (S60)) (r1:List (S60)) (r2:Int) (w:World) (c2:Kd.V k60 60 w w.heap.size (fun k_=>D k_) (.slice Z G.length c1) G) (h:count_Star.f k M G=some (r1,r2)) :
    Calls Try.prog 39 #[.int .i64 M,.slice Z G.length c1] w fun e w'=>∃ a8:Value,e=.returned (.tuple #[a8,.int .i64 r2])∧Kd.V k60 60 w' w.heap.size (fun k_=>(D k_ ∨ w.heap.size ≤ k_)) a8 r1∧Below w.heap.size w w':=by
 have E:=mk0 (show Kd.V k60 60 w w.heap.size (fun k_=>(D k_ ∨ w.heap.size ≤ k_)) (.slice Z G.length c1) G from Kd.V_mono c2 (fun k_ hk=>.inl hk));have F:=mk0 (Below.refl w.heap.size w);have H:((count_check.f k M (([G]:List (List (S60))))).bind fun C=>(if C=0 then ((count_star.f k M G).bind fun O=>((count_full.f k M O).bind fun Q=>(some (Q.1,Q.2)))) else (some (([]:List (S60)),C))))=some (r1,r2):=h;clear h;obtain ⟨I,R⟩:∃ y_:List (List (S60)),y_=(([G]:List (List (S60)))):=⟨_,rfl⟩;(replace H:((count_check.f k M I).bind fun C=>(if C=0 then ((count_star.f k M G).bind fun O=>((count_full.f k M O).bind fun Q=>(some (Q.1,Q.2)))) else (some (([]:List (S60)),C))))=some (r1,r2):=by first|(rw [R];with_reducible exact H)|(have a4:=(Option.bind_some _ _).symm.trans H;rw [R];with_reducible exact a4)|(have a4:=(Option.bind_some _ _).symm.trans H;with_reducible exact a4)|with_reducible exact H|(rw [R];exact H)|exact H);have U:=mk0 R;clear R;replace H:=Option.bind_eq_some_iff.mp H;obtain ⟨C,a9,H⟩:=H;(try dsimp only at H);have A3:=mk0 a9;clear a9;by_cases c4:C=0;(· rw [if_pos c4] at H;have c4b0:(C == 0)=true:=beq_iff_eq.mpr c4;have c4b1:(C != 0)=false:=bne_eq_false_iff_eq.mpr c4;clear c4;replace H:=Option.bind_eq_some_iff.mp H;obtain ⟨O,b0,H⟩:=H;(try dsimp only at H);have A5:=mk0 b0;clear b0;replace H:=Option.bind_eq_some_iff.mp H;obtain ⟨⟨b2,b3⟩,b1,H⟩:=H;(try dsimp only at H);have A6:=mk0 b1;clear b1;simp only [Option.some.injEq,Prod.mk.injEq] at H;obtain ⟨rfl,rfl⟩:=H;go_enter Try.func39,Try.ntmps39;go_wp2_with (first|((with_reducible refine gate_dst (N:=9) rfl ?_);refine Kd.N_lit (Kd.slice 60 k60) _ 22 ?hg (N':=9) ?hd (xs:=([G]:List (List (S60)))) (inner:=[.slice Z G.length c1]) (ok:=(fun k_=>(D k_ ∨ w.heap.size ≤ k_))) (okp:=(fun k_=>(D k_ ∨ w.heap.size ≤ k_))) ?hr ?hp (fun _ hk=>hk) ((show ∀ k_,w.heap.size ≤ k_ → (fun k_=>(D k_ ∨ w.heap.size ≤ k_)) k_ from fun k_ hk=>(.inr (Nat.le_trans (below_size F.1) hk))) _ (Nat.le_refl _)) (Below.refl _ _) (Nat.le_refl _) (by simp) ?_;(case hd=>rfl);(case hg=>rfl);(case hr=>first|(go_simp;done)|(go_simp;rfl));(case hp=>exact (Reps.one (show Kd.FK (Kd.slice 60 k60) _ _ G [.slice Z G.length c1] from (Kd.FK_slice_mk (Kd.V_reads' (Kd.V_mono (e:=0) (base:=0) (ok':=(fun k_=>(D k_ ∨ w.heap.size ≤ k_))) (E.1) (fun k_ hk=>hk))).2.1 (Kd.V_F (Kd.V_mono (e:=0) (base:=0) (ok':=(fun k_=>(D k_ ∨ w.heap.size ≤ k_))) (E.1) (fun k_ hk=>hk))))) (Reps.none _ _)));intro b4 w7 T hb hg_ Y;clear hg_ Y;(first|rw [← U.1] at T|(simp only [Int.reduceToNat] at T;rw [← U.1] at T));have B:=mk0 (Kd.N_lower T (below_size F.1));replace E:=mk0 (Kd.V_elder' E.1 (by first|exact Kd.N_base T|exact Kd.S_base T|exact Kd.R_base T) hb);replace F:=bst F hb;clear hb T;obtain ⟨a2,a3,c5⟩:=Kd.N_slice B.1;subst c5)|((with_reducible refine gate_callee (f:=51) rfl ?_);refine goesL_ (some 10) rfl rfl Try.func51 (by kernel_rfl) rfl #[.int .i64 M,.slice a2 I.length a3] rfl (by (try simp only [m0_,m1_,m2_]);first|done|rfl|(simp only [l0_,l1_];rfl)) ?_;(with_reducible refine (count_check.calls k M _ _ I C _ ?side1 ?side2 A3.1).mono ?_);(case side1=>repeat (first|exact (Kd.N_reads' B.1).2.2|(with_reducible refine Kd.C_alloc ?_ _)|(with_reducible refine Kd.C_drewN ?_ _)|(with_reducible refine Kd.C_drew ?_)));(case side2=>exact (Kd.N_reads' B.1).2.1);rintro e d0 ⟨rfl,hb⟩;refine ⟨_,rfl,?_⟩;replace E:=mk0 (Kd.V_below E.1 hb);replace B:=mk0 (Kd.N_below B.1 hb);replace F:=bst F hb;(try clear hb);(try clear hk))|((with_reducible refine gate_callee (f:=71) rfl ?_);refine goesL_ (some 17) rfl rfl Try.func71 (by kernel_rfl) rfl #[.int .i64 M,.slice Z G.length c1] rfl (by (try simp only [m0_,m1_,m2_]);first|done|rfl|(simp only [l0_,l1_];rfl)) ?_;(with_reducible refine (count_star.calls k M (fun k_=>((D k_ ∨ w.heap.size ≤ k_)∧some k_ ≠ (.slice a2 I.length a3:Value).ownBlock)) _ _ G O _ ?side1 A5.1).mono ?_);(case side1=>exact E.1);rintro e d1 ⟨c8,rfl,J,hb⟩;refine ⟨_,rfl,?_⟩;have X:=mk0 (Kd.N_lower (Kd.N_mono (ok':=fun k_=>(D k_ ∨ w.heap.size ≤ k_)∧some k_ ≠ (.slice a2 I.length a3:Value).ownBlock) J (fun k_ hk_=>⟨Or.elim hk_ (fun hs_=>hs_.1) (fun hn_=>(.inr (Nat.le_trans (below_size F.1) hn_))),Or.elim hk_ (fun hs_=>hs_.2) (fun hn_=>(Kd.fresh' (Kd.N_lt B.1) k_ hn_))⟩)) (below_size F.1));replace E:=mk0 (Kd.V_elder' E.1 (by first|exact Kd.N_base J|exact Kd.S_base J|exact Kd.R_base J) hb);replace B:=mk0 (Kd.N_elder' B.1 (by first|exact Kd.N_base J|exact Kd.S_base J|exact Kd.R_base J) hb);replace F:=bst F hb;(try clear hb);(try clear hk);(try clear J);obtain ⟨b5,b6,b7⟩:=Kd.N_slice X.1;subst b7)|((with_reducible refine gate_callee (f:=80) rfl ?_);refine goesL_ (some 18) rfl rfl Try.func80 (by kernel_rfl) rfl #[.int .i64 M,.slice b5 O.length b6] rfl (by (try simp only [m0_,m1_,m2_]);first|done|rfl|(simp only [l0_,l1_];rfl)) ?_;(with_reducible refine (count_full.calls k M (fun k_=>((D k_ ∨ w.heap.size ≤ k_)∧some k_ ≠ (.slice a2 I.length a3:Value).ownBlock)) _ _ O b2 b3 _ ?side1 A6.1).mono ?_);(case side1=>exact Kd.N_V (X.1));rintro e d2 ⟨c9,rfl,J,hb⟩;refine ⟨_,rfl,?_⟩;have a7:=mk0 (Kd.V_lower (Kd.V_mono (ok':=fun k_=>(D k_ ∨ w.heap.size ≤ k_)∧some k_ ≠ (.slice a2 I.length a3:Value).ownBlock) J (fun k_ hk_=>⟨Or.elim hk_ (fun hs_=>hs_.1) (fun hn_=>(.inr (Nat.le_trans (below_size F.1) hn_))),Or.elim hk_ (fun hs_=>hs_.2) (fun hn_=>(Kd.fresh' (Kd.N_lt B.1) k_ hn_))⟩)) (below_size F.1));replace E:=mk0 (Kd.V_below E.1 hb);replace B:=mk0 (Kd.N_below B.1 hb);replace X:=mk0 (Kd.N_below X.1 hb);replace F:=bst F hb;(try clear hb);(try clear hk);(try clear J)));go_ret2;exact ⟨_,by first|rfl|(simp [errW_none,errW_some] <;> rfl)|(simp [*,errW_none,errW_some] <;> rfl),by (with_reducible repeat (first|apply Kd.V_alloc|apply Kd.V_drewN|apply Kd.V_drew));exact Kd.V_mono a7.1 (fun _ hk=>hk.1),by repeat (first|(with_reducible first|exact F.1|apply below_alloc|apply pw_below_drewN|apply below_drew1)|exact F.1)⟩);· rw [if_neg c4] at H;have c4b0:(C == 0)=false:=beq_eq_false_iff_ne.mpr c4;have c4b1:(C != 0)=true:=bne_iff_ne.mpr c4;simp only [Option.some.injEq,Prod.mk.injEq] at H;obtain ⟨rfl,rfl⟩:=H;go_enter Try.func39,Try.ntmps39;go_wp2_with (first|((with_reducible refine gate_dst (N:=9) rfl ?_);refine Kd.N_lit (Kd.slice 60 k60) _ 22 ?hg (N':=9) ?hd (xs:=([G]:List (List (S60)))) (inner:=[.slice Z G.length c1]) (ok:=(fun k_=>(D k_ ∨ w.heap.size ≤ k_))) (okp:=(fun k_=>(D k_ ∨ w.heap.size ≤ k_))) ?hr ?hp (fun _ hk=>hk) ((show ∀ k_,w.heap.size ≤ k_ → (fun k_=>(D k_ ∨ w.heap.size ≤ k_)) k_ from fun k_ hk=>(.inr (Nat.le_trans (below_size F.1) hk))) _ (Nat.le_refl _)) (Below.refl _ _) (Nat.le_refl _) (by simp) ?_;(case hd=>rfl);(case hg=>rfl);(case hr=>first|(go_simp;done)|(go_simp;rfl));(case hp=>exact (Reps.one (show Kd.FK (Kd.slice 60 k60) _ _ G [.slice Z G.length c1] from (Kd.FK_slice_mk (Kd.V_reads' (Kd.V_mono (e:=0) (base:=0) (ok':=(fun k_=>(D k_ ∨ w.heap.size ≤ k_))) (E.1) (fun k_ hk=>hk))).2.1 (Kd.V_F (Kd.V_mono (e:=0) (base:=0) (ok':=(fun k_=>(D k_ ∨ w.heap.size ≤ k_))) (E.1) (fun k_ hk=>hk))))) (Reps.none _ _)));intro b4 d3 L hb hg_ Y;clear hg_ Y;(first|rw [← U.1] at L|(simp only [Int.reduceToNat] at L;rw [← U.1] at L));have B:=mk0 (Kd.N_lower L (below_size F.1));replace E:=mk0 (Kd.V_elder' E.1 (by first|exact Kd.N_base L|exact Kd.S_base L|exact Kd.R_base L) hb);replace F:=bst F hb;clear hb L;obtain ⟨b8,b9,c0⟩:=Kd.N_slice B.1;subst c0)|((with_reducible refine gate_callee (f:=51) rfl ?_);refine goesL_ (some 10) rfl rfl Try.func51 (by kernel_rfl) rfl #[.int .i64 M,.slice b8 I.length b9] rfl (by (try simp only [m0_,m1_,m2_]);first|done|rfl|(simp only [l0_,l1_];rfl)) ?_;(with_reducible refine (count_check.calls k M _ _ I C _ ?side1 ?side2 A3.1).mono ?_);(case side1=>repeat (first|exact (Kd.N_reads' B.1).2.2|(with_reducible refine Kd.C_alloc ?_ _)|(with_reducible refine Kd.C_drewN ?_ _)|(with_reducible refine Kd.C_drew ?_)));(case side2=>exact (Kd.N_reads' B.1).2.1);rintro e d4 ⟨rfl,hb⟩;refine ⟨_,rfl,?_⟩;replace E:=mk0 (Kd.V_below E.1 hb);replace B:=mk0 (Kd.N_below B.1 hb);replace F:=bst F hb;(try clear hb);(try clear hk)));go_ret2;exact ⟨_,by first|rfl|(simp [errW_none,errW_some] <;> rfl)|(simp [*,errW_none,errW_some] <;> rfl),Kd.N_V (base:=0) (by first|exact Kd.R_nil _ _ _ _ _|exact Kd.N_nil _ _ _ _ _|exact Kd.V_nil _ _ _ _ _|exact Kd.Q_nil _ _ _ _ _|exact Kd.S_nil _ _ _ _ _),by repeat (first|(with_reducible first|exact F.1|apply below_alloc|apply pw_below_drewN|apply below_drew1)|exact F.1)⟩
end Go.Proofs.Ytkonljiembcdlaa.PC
namespace Go.Proofs.Ytkonljiembcdlaa.PC
open Go.Proofs.MyWords Go.RowKit Go.Proofs.YtkonljiembcdlaaW.PrintWords Go.Proofs.YtkonljiembcdlaaW.PrintLast Go.Proofs.YtkonljiembcdlaaW.PrintMore
set_option linter.unusedVariables false
set_option linter.unusedSimpArgs false
def sums_ref (k:Nat) (d b:Int) (o:Option (List S60)):Option (List S60 × Int):=if b=0 then o.bind fun s=>(bellpullref05_Check.f k d [s]).bind fun q=>some (s,if q=0 then 0 else 7) else some ([],b)
def bellpulllaw05_CountSums.f (k:Nat) (d n:Int) (x y:List S60) (v:List Int):Option Bool :=
  (bellpulllaw05_few.f k x).bind fun X=>(bellpulllaw05_few.f k y).bind fun Y=>(count_Sum.f k d X Y).bind fun s=>(count_Star.f k d X).bind fun t=>(bellpullref05_Check.f k d [X,Y]).bind fun b=>(bellpullref05_Check.f k d [X]).bind fun z =>
    (sums_ref k d b (bellpullref05_Sum.f k X Y)).bind fun p=>(sums_ref k d z (bellpullref05_Star.f k d X)).bind fun q =>
      (if p.2=0 then bellpullref05_Same.f k s.1 p.1 else some (decide (s.1=[]))).bind fun e1=>(if q.2=0 then bellpullref05_Same.f k t.1 q.1 else some (decide (t.1=[]))).bind fun e2 =>
        if e1=true∧s.2=p.2∧e2=true∧t.2=q.2 then bellpulllaw05_lives.f k else none
theorem C_two22 {w:World} {g:Nat} {A B:Option Addr} {c d:Nat} {l m:List S60} (h:w.heap[g]?=some (.cells #[.slice A l.length c,.slice B m.length d] 22 (0,0))) (hC:Kd.C k60 w A l.length l) (hc:l.length ≤ c) (hD:Kd.C k60 w B m.length m) (hd:m.length ≤ d) :
    Kd.C (Kd.slice 60 k60) w (some ⟨g,0,none⟩) [l,m].length [l,m]:=by
  have e:∀ i,w.cell? ((⟨g,0,none⟩:Addr).add i)=(#[.slice A l.length c,.slice B m.length d]:Array Value)[i]?:=fun i=>by rw [add_plain,blk_cell h]
  refine ⟨rfl,by simp,fun _=>⟨⟨g,0,none⟩,rfl,fun q u hq=>?_⟩⟩
  match q,hq with
  | 0,hq =>
    obtain rfl:u=l:=by simpa using hq.symm
    refine ⟨[.slice A u.length c],rfl,⟨A,c,rfl,hc,hC⟩,fun a b hab=>?_⟩
    match a,hab with
    | 0,hab=>exact (e _).trans hab
  | 1,hq =>
    obtain rfl:u=m:=by simpa using hq.symm
    refine ⟨[.slice B u.length d],rfl,⟨B,d,rfl,hd,hD⟩,fun a b hab=>?_⟩
    match a,hab with
    | 0,hab=>exact (e _).trans hab
set_option maxHeartbeats 4000000 in
set_option maxRecDepth 100000 in
theorem bellpulllaw05_CountSums.calls (k:Nat) (d n:Int) (A1:Option Addr) (c1:Nat) (x:List S60) (A2:Option Addr) (c2:Nat) (y:List S60) (A3:Option Addr) (c3:Nat) (v:List Int) (r:Bool) (w:World) (hx:Kd.C k60 w A1 x.length x) (hcx:x.length ≤ c1) (hy:Kd.C k60 w A2 y.length y) (hcy:y.length ≤ c2) (hv:Kd.C (Kd.int .i64) w A3 v.length v) (hcv:v.length ≤ c3) (h:bellpulllaw05_CountSums.f k d n x y v=some r) :
    Calls Try.prog 12 #[.agg #[.int .i64 d,.int .i64 n,.slice A1 x.length c1,.slice A2 y.length c2,.slice A3 v.length c3]] w fun e w'=>e=.returned (.bool r)∧Below w.heap.size w w':=by
  unfold bellpulllaw05_CountSums.f at h
  obtain ⟨X,hX,h⟩:=Option.bind_eq_some_iff.mp h
  obtain ⟨Y,hY,h⟩:=Option.bind_eq_some_iff.mp h
  obtain ⟨⟨s,se⟩,hs,h⟩:=Option.bind_eq_some_iff.mp h
  obtain ⟨⟨t,te⟩,ht,h⟩:=Option.bind_eq_some_iff.mp h
  obtain ⟨b,hb,h⟩:=Option.bind_eq_some_iff.mp h
  obtain ⟨z,hz,h⟩:=Option.bind_eq_some_iff.mp h
  obtain ⟨⟨p,pe⟩,hp,h⟩:=Option.bind_eq_some_iff.mp h
  obtain ⟨⟨q,qe⟩,hq,h⟩:=Option.bind_eq_some_iff.mp h
  obtain ⟨e1,he1,h⟩:=Option.bind_eq_some_iff.mp h
  obtain ⟨e2,he2,h⟩:=Option.bind_eq_some_iff.mp h
  by_cases hall:e1=true∧se=pe∧e2=true∧te=qe
  case neg=>rw [if_neg hall] at h;cases h
  rw [if_pos hall] at h
  obtain ⟨g1,g2,g3,g4⟩:=hall
  rw [g1] at he1
  rw [g3] at he2
  rw [g2] at hs
  rw [g4] at ht
  dsimp only at he1 he2
  have o1:=Try.underlying25
  have HFEW:Aside0 (∀ (l L:List S60) (A:Option Addr) (c:Nat) (W:World),Kd.C k60 w A l.length l → l.length ≤ c → bellpulllaw05_few.f k l=some L → Below w.heap.size w W → Calls Try.prog 17 #[.slice A l.length c] W fun e w'=>∃ (B:Option Addr) (e':Nat),e=.returned (.slice B L.length e')∧L.length ≤ e'∧Kd.C k60 w' B L.length L∧Below W.heap.size W w'):=⟨fun l L A c W hC hc hf hW=>by
    refine (bellpulllaw05_few.calls k A c l L W (Kd.C_below hC hW) hc hf).mono ?_
    rintro e w' ⟨v,rfl,hR,hb⟩
    obtain ⟨B,e',rfl⟩:=Kd.R_slice hR
    exact ⟨B,e',rfl,(Kd.R_reads' hR).2.1,(Kd.R_reads' hR).2.2,hb⟩⟩
  have HXC:=mk0 hx
  have HXL:=mk0 hcx
  have HYC:=mk0 hy
  have HYL:=mk0 hcy
  have HX:=mk0 hX
  have HY:=mk0 hY
  have HSU:=mk0 hs
  have HST:=mk0 ht
  have HCB:=mk0 hb
  have HCZ:=mk0 hz
  have HP:=mk0 hp
  have HQ:=mk0 hq
  have HE1:=mk0 he1
  have HE2:=mk0 he2
  have HLV:=mk0 h
  clear h hX hY hs ht hb hz hp hq he1 he2 g1 g2 g3 g4 hx hcx hy hcy hv hcv
  have HB:=mk0 (Below.refl w.heap.size w)
  go_enter Try.func12,Try.ntmps12
  go_upto_region 1 with (first
    | ((with_reducible refine gate_dst (N:=1) rfl ?_);(try (refine gate_guard (by rfl) ?_;dsimp only));refine box_event ?hg (N:=1) ?hd (cs:=#[.int .i64 d,.int .i64 n,.slice A1 x.length c1,.slice A2 y.length c2,.slice A3 v.length c3]) (t:=25) ?hr ?_;(case hd=>rfl);(case hg=>rfl);(case hr=>first|(go_simp;done)|(go_simp;rfl));intro U hg w1 h2 hb;have BU:=mk0 h2;replace HB:=mk0 (below_step HB.1 hb);clear hb h2 hg))
  have HS:Aside0 (∀ w',Below w1.heap.size w1 w' → w'.cell? ⟨U,0,none⟩=some (.int .i64 d)∧w'.cell? ⟨U,2,none⟩=some (.slice A1 x.length c1)∧w'.cell? ⟨U,3,none⟩=some (.slice A2 y.length c2)):=⟨fun w' hb=>⟨(blk_cell (blk_below BU.1 hb) 0).trans rfl,(blk_cell (blk_below BU.1 hb) 2).trans rfl,(blk_cell (blk_below BU.1 hb) 3).trans rfl⟩⟩
  have HZ:=mk0 (Below.refl w1.heap.size w1)
  go_region_held3 (fun w'=>w'.cell? ⟨U,0,none⟩=some (.int .i64 d)∧w'.cell? ⟨U,2,none⟩=some (.slice A1 x.length c1)∧w'.cell? ⟨U,3,none⟩=some (.slice A2 y.length c2)) (exact HS.1 _ (by with_reducible repeat (first|exact HZ.1|apply below_alloc|apply Below.drew)))
    (first
      | (go_at_call 17;(with_reducible refine (HFEW.1 x X A1 c1 _ HXC.1 HXL.1 HX.1 (below_step HB.1 ?b)).mono ?_);(case b=>with_reducible repeat (first|exact HZ.1|apply below_alloc|apply Below.drew));rintro e w2 ⟨B1,e1',rfl,hl,hC,hb⟩;replace HZ:=mk0 (below_step (by with_reducible repeat (first|exact HZ.1|apply below_alloc|apply Below.drew)) hb);have HX1:=mk0 hC;have HX2:=mk0 hl;clear hb hl hC)
      | (go_at_call 17;(with_reducible refine (HFEW.1 y Y A2 c2 _ HYC.1 HYL.1 HY.1 (below_step HB.1 ?b)).mono ?_);(case b=>with_reducible repeat (first|exact HZ.1|apply below_alloc|apply Below.drew));rintro e w3 ⟨B2,e2',rfl,hl,hC,hb⟩;replace HX1:=mk0 (Kd.C_below HX1.1 hb);replace HZ:=mk0 (below_step (by with_reducible repeat (first|exact HZ.1|apply below_alloc|apply Below.drew)) hb);have HY1:=mk0 hC;have HY2:=mk0 hl;clear hb hl hC)
      | fail)
  generalize HW3:w3=wS at *
  have hcd:wS.cell? ⟨U,0,none⟩=some (.int .i64 d):=(HS.1 _ HZ.1).1
  have HSUM:Aside0 (∀ W:World,Below wS.heap.size wS W → Calls Try.prog 36 #[.int .i64 d,.slice B1 X.length e1',.slice B2 Y.length e2'] W fun e w'=>∃ (A:Option Addr) (c:Nat),e=.returned (.tuple #[.slice A s.length c,.int .i64 pe])∧s.length ≤ c∧Kd.C k60 w' A s.length s∧Below W.heap.size W w'):=⟨fun W hW=>by
    refine (count_Sum.calls k d (fun k_=>k_ < W.heap.size) B1 e1' X (fun k_=>k_ < W.heap.size) B2 e2' Y s pe W (Kd.V_mk HX2.1 (Kd.C_F k60_heap (Kd.C_below HX1.1 hW))) (Kd.V_mk HY2.1 (Kd.C_F k60_heap (Kd.C_below HY1.1 hW))) HSU.1).mono ?_
    rintro e w' ⟨v,rfl,hV,hb⟩
    obtain ⟨A,c,rfl,hl,hF⟩:=hV
    exact ⟨A,c,rfl,hl,Kd.F_now hF,hb⟩⟩
  have HSTA:Aside0 (∀ W:World,Below wS.heap.size wS W → Calls Try.prog 39 #[.int .i64 d,.slice B1 X.length e1'] W fun e w'=>∃ (A:Option Addr) (c:Nat),e=.returned (.tuple #[.slice A t.length c,.int .i64 qe])∧t.length ≤ c∧Kd.C k60 w' A t.length t∧Below W.heap.size W w'):=⟨fun W hW=>by
    refine (count_Star.calls k d (fun k_=>k_ < W.heap.size) B1 e1' X t qe W (Kd.V_mk HX2.1 (Kd.C_F k60_heap (Kd.C_below HX1.1 hW))) HST.1).mono ?_
    rintro e w' ⟨v,rfl,hV,hb⟩
    obtain ⟨A,c,rfl,hl,hF⟩:=hV
    exact ⟨A,c,rfl,hl,Kd.F_now hF,hb⟩⟩
  have HW0:=mk0 HZ.1
  have HZ:=mk0 (Below.refl wS.heap.size wS)
  clear HW3 HX HY HSU HST HFEW HXC HXL HYC HYL
  go_upto_region 4 with (first
    | (go_at_call 36;(with_reducible refine (HSUM.1 _ (by with_reducible repeat (first|exact HZ.1|apply below_alloc|apply Below.drew))).mono ?_);rintro e w4 ⟨Bs,es,rfl,hl,hC,hb⟩;replace HZ:=mk0 (below_step (by with_reducible repeat (first|exact HZ.1|apply below_alloc|apply Below.drew)) hb);have HSC:=mk0 hC;have HSL:=mk0 hl;clear hb hl hC;have hcd4:w4.cell? ⟨U,0,none⟩=some (.int .i64 d):=(HS.1 _ (below_step HW0.1 HZ.1)).1)
    | (go_at_call 39;(with_reducible refine (HSTA.1 _ (by with_reducible repeat (first|exact HZ.1|apply below_alloc|apply Below.drew))).mono ?_);rintro e w5 ⟨Bt,et,rfl,hl,hC,hb⟩;replace HZ:=mk0 (below_step (by with_reducible repeat (first|exact HZ.1|apply below_alloc|apply Below.drew)) hb);replace HSC:=mk0 (Kd.C_below HSC.1 hb);have HTC:=mk0 hC;have HTL:=mk0 hl;clear hb hl hC hcd hcd4))
  have HCK2:Aside0 (∀ (g:Nat) (W:World),Below wS.heap.size wS W → W.heap[g]?=some (.cells #[.slice B1 X.length e1',.slice B2 Y.length e2'] 22 (0,0)) → Calls Try.prog 19 #[.int .i64 d,.slice (some ⟨g,0,none⟩) 2 2] W fun e w'=>e=.returned (.int .i64 b)∧Below W.heap.size W w'):=⟨fun g W hW hg=>bellpullref05_Check.calls k d (some ⟨g,0,none⟩) 2 [X,Y] b W (C_two22 hg (Kd.C_below HX1.1 hW) HX2.1 (Kd.C_below HY1.1 hW) HY2.1) (Nat.le_refl _) HCB.1⟩
  have HCK1:Aside0 (∀ (g:Nat) (W:World),Below wS.heap.size wS W → W.heap[g]?=some (.cells #[.slice B1 X.length e1'] 22 (0,0)) → Calls Try.prog 19 #[.int .i64 d,.slice (some ⟨g,0,none⟩) 1 1] W fun e w'=>e=.returned (.int .i64 z)∧Below W.heap.size W w'):=⟨fun g W hW hg=>bellpullref05_Check.calls k d (some ⟨g,0,none⟩) 1 [X] z W (C_one_row hg (Kd.C_below HX1.1 hW) HX2.1) (Nat.le_refl _) HCZ.1⟩
  go_cut [9,10] (fun v9 v10 wc=>v9=.int .i64 b∧v10=.int .i64 z∧Aside0 (Kd.C k60 wc Bs s.length s)∧Aside0 (Kd.C k60 wc Bt t.length t)∧Aside0 (Below wS.heap.size wS wc))
  case first =>
    go_region_held3 (fun w'=>w'.cell? ⟨U,0,none⟩=some (.int .i64 d)) (exact (HS.1 _ (below_step HW0.1 (by with_reducible repeat (first|exact HZ.1|apply below_alloc|apply Below.drew)))).1)
      (first
        | (go_at_call 19;(with_reducible refine (HCK2.1 _ _ ?b ?g).mono ?_);(case b=>with_reducible repeat (first|exact HZ.1|apply below_alloc|apply Below.drew));(case g=>(with_reducible repeat (first|exact blk_new _ _|exact new2 _ _ _|refine blk_drew ?_|refine blk_al ?_ _)));rintro e w6 ⟨rfl,hb⟩;(first|(with_reducible have HK1:=mk0 (blk_below (g:=w5.heap.size + 1) (o:=.cells #[.slice B1 X.length e1'] 22 (0,0)) (new2 _ _ _) hb))|(with_reducible have HK1:=mk0 (blk_below (g:=w5.heap.size + 1) (o:=.cells #[.slice B1 X.length e1'] 22 (0,0)) (blk_drew (new2 _ _ _)) hb))|(with_reducible have HK1:=mk0 (blk_below (g:=w5.heap.size) (o:=.cells #[.slice B1 X.length e1'] 22 (0,0)) (blk_al (blk_new _ _) _) hb))|(with_reducible have HK1:=mk0 (blk_below (g:=w5.heap.size) (o:=.cells #[.slice B1 X.length e1'] 22 (0,0)) (blk_drew (blk_al (blk_new _ _) _)) hb))|skip);replace HZ:=mk0 (below_step (by with_reducible repeat (first|exact HZ.1|apply below_alloc|apply Below.drew)) hb);replace HSC:=mk0 (Kd.C_below (d:=k60) (A:=Bs) (n:=s.length) (xs:=s) (by with_reducible repeat (first|exact HSC.1|refine Kd.C_alloc ?_ _|refine Kd.C_drew ?_)) hb);replace HTC:=mk0 (Kd.C_below (d:=k60) (A:=Bt) (n:=t.length) (xs:=t) (by with_reducible repeat (first|exact HTC.1|refine Kd.C_alloc ?_ _|refine Kd.C_drew ?_)) hb);clear hb)
        | (go_at_call 19;(with_reducible refine (HCK1.1 _ _ ?b ?g).mono ?_);(case b=>with_reducible repeat (first|exact HZ.1|apply below_alloc|apply Below.drew));(case g=>with_reducible repeat (first|exact HK1.1|exact blk_new _ _|exact blk_drew (blk_new _ _)|refine blk_drew ?_|refine blk_al ?_ _));rintro e w7 ⟨rfl,hb⟩;replace HZ:=mk0 (below_step (by with_reducible repeat (first|exact HZ.1|apply below_alloc|apply Below.drew)) hb);replace HSC:=mk0 (Kd.C_below (d:=k60) (A:=Bs) (n:=s.length) (xs:=s) (by with_reducible repeat (first|exact HSC.1|refine Kd.C_alloc ?_ _|refine Kd.C_drew ?_)) hb);replace HTC:=mk0 (Kd.C_below (d:=k60) (A:=Bt) (n:=t.length) (xs:=t) (by with_reducible repeat (first|exact HTC.1|refine Kd.C_alloc ?_ _|refine Kd.C_drew ?_)) hb);clear hb)
        | fail)
    all_goals
      (try go_wp2)
      go_meet
      case rel=>exact ⟨rfl,rfl,HSC,HTC,HZ⟩
  case rest =>
  obtain ⟨rfl,rfl,HSC,HTC,HZ⟩:=hcut
  clear HSUM HSTA HCK1 HCK2
  go_upto_if 46 with (fail)
  go_cut [9,11] (fun v9 v11 wc=>∃ (A:Option Addr) (c:Nat),v9=.int .i64 pe∧v11=.slice A p.length c∧Aside0 (p.length ≤ c)∧Aside0 (Kd.C k60 wc A p.length p)∧ Aside0 (Kd.C k60 wc Bs s.length s)∧Aside0 (Kd.C k60 wc Bt t.length t)∧Aside0 (Below wS.heap.size wS wc))
  case first =>
    have hp:=HP.1
    by_cases hb0:b=0
    · rw [hb0,sums_ref,if_pos rfl] at hp
      obtain ⟨p0,hp0,hp⟩:=Option.bind_eq_some_iff.mp hp
      obtain ⟨q0,hq0,hp⟩:=Option.bind_eq_some_iff.mp hp
      obtain ⟨h1,h2⟩:=Prod.mk.inj (Option.some.inj hp)
      rw [h1] at hp0 hq0
      have HR1:=mk0 hp0
      have HR2:=mk0 hq0
      have hbt:(b == 0)=true:=beq_iff_eq.mpr hb0
      clear hp0 hq0 hp h1 hb0
      have hcd:=(HS.1 _ (below_step HW0.1 HZ.1)).1
      go_wp2_with (fail)
      (with_reducible refine (bellpullref05_Sum.calls k _ B1 e1' X B2 e2' Y p _ (Kd.C_F k60_heap (Kd.C_below HX1.1 HZ.1)) HX2.1 (Kd.C_F k60_heap (Kd.C_below HY1.1 HZ.1)) HY2.1 HR1.1).mono ?_)
      rintro e w8 ⟨Bp,ep,rfl,hl,hF,hb⟩
      replace HSC:=mk0 (Kd.C_below (d:=k60) (A:=Bs) (n:=s.length) (xs:=s) (by with_reducible repeat (first|exact HSC.1|refine Kd.C_alloc ?_ _|refine Kd.C_drew ?_)) hb);replace HTC:=mk0 (Kd.C_below (d:=k60) (A:=Bt) (n:=t.length) (xs:=t) (by with_reducible repeat (first|exact HTC.1|refine Kd.C_alloc ?_ _|refine Kd.C_drew ?_)) hb)
      skip
      replace HZ:=mk0 (below_step HZ.1 hb)
      have HPC:=mk0 (Kd.F_now hF)
      have HPL:=mk0 hl
      clear hcd
      have hcd:=(HS.1 _ (below_step HW0.1 HZ.1)).1
      clear hb hl hF
      have HCK:Aside0 (∀ (g:Nat) (W:World),Below w8.heap.size w8 W → W.heap[g]?=some (.cells #[.slice Bp p.length ep] 22 (0,0)) → Calls Try.prog 19 #[.int .i64 d,.slice (some ⟨g,0,none⟩) 1 1] W fun e w'=>e=.returned (.int .i64 q0)∧Below W.heap.size W w'):=⟨fun g W hW hg=>bellpullref05_Check.calls k d (some ⟨g,0,none⟩) 1 [p] q0 W (C_one_row hg (Kd.C_below HPC.1 hW) HPL.1) (Nat.le_refl _) HR2.1⟩
      go_wp2_with (fail)
      (with_reducible refine (HCK.1 _ _ (below_alloc (Below.refl _ _) _) (blk_new _ _)).mono ?_)
      rintro e w9 ⟨rfl,hb⟩
      have hb9:=below_step (below_alloc (Below.refl w8.heap.size w8) (.cells #[.slice Bp p.length ep] 22)) hb
      by_cases hq:q0=0
      · have hqt:(q0 != 0)=false:=bne_eq_false_iff_eq.mpr hq
        rw [if_pos hq] at h2
        subst h2
        clear hq hb
        go_wp2
        go_meet
        case rel=>exact ⟨Bp,ep,by rw [show b=0 from beq_iff_eq.mp hbt],rfl,HPL,⟨Kd.C_below HPC.1 hb9⟩, ⟨Kd.C_below HSC.1 hb9⟩,⟨Kd.C_below HTC.1 hb9⟩,⟨below_step HZ.1 hb9⟩⟩
      · have hqt:(q0 != 0)=true:=bne_iff_ne.mpr hq
        rw [if_neg hq] at h2
        subst h2
        clear hq hb
        go_wp2
        go_meet
        case rel=>exact ⟨Bp,ep,rfl,rfl,HPL,⟨Kd.C_below HPC.1 hb9⟩, ⟨Kd.C_below HSC.1 hb9⟩,⟨Kd.C_below HTC.1 hb9⟩,⟨below_step HZ.1 hb9⟩⟩
    · rw [sums_ref,if_neg hb0] at hp
      obtain ⟨h1,h2⟩:=Prod.mk.inj (Option.some.inj hp)
      subst h1
      subst h2
      have hbt:(b == 0)=false:=beq_eq_false_iff_ne.mpr hb0
      clear hp hb0
      go_wp2
      go_meet
      case rel=>exact ⟨none,0,rfl,rfl,⟨Nat.le_refl _⟩,⟨Kd.C_nil k60 _⟩, HSC,HTC,HZ⟩
  case rest =>
    clear HSC HTC HZ
    obtain ⟨Bp,ep,rfl,rfl,HRL,HRC,HSC,HTC,HZ⟩:=hcut
    go_upto_if 57 with (fail)
    go_cut [10,12] (fun v10 v12 wc=>∃ (A:Option Addr) (c:Nat),v10=.int .i64 qe∧v12=.slice A q.length c∧Aside0 (q.length ≤ c)∧Aside0 (Kd.C k60 wc A q.length q)∧Aside0 (Kd.C k60 wc Bp p.length p)∧Aside0 (Kd.C k60 wc Bs s.length s)∧Aside0 (Kd.C k60 wc Bt t.length t)∧Aside0 (Below wS.heap.size wS wc))
    case first =>
      have hp:=HQ.1
      by_cases hb0:z=0
      · rw [hb0,sums_ref,if_pos rfl] at hp
        obtain ⟨p0,hp0,hp⟩:=Option.bind_eq_some_iff.mp hp
        obtain ⟨q0,hq0,hp⟩:=Option.bind_eq_some_iff.mp hp
        obtain ⟨h1,h2⟩:=Prod.mk.inj (Option.some.inj hp)
        rw [h1] at hp0 hq0
        have HR1:=mk0 hp0
        have HR2:=mk0 hq0
        have hbt:(z == 0)=true:=beq_iff_eq.mpr hb0
        clear hp0 hq0 hp h1 hb0
        have hcd:=(HS.1 _ (below_step HW0.1 HZ.1)).1
        go_wp2_with (fail)
        (with_reducible refine (bellpullref05_Star.calls k _ d B1 e1' X q _ (Kd.C_F k60_heap (Kd.C_below HX1.1 HZ.1)) HX2.1 HR1.1).mono ?_)
        rintro e w8 ⟨Bq,eq',rfl,hl,hF,hb⟩
        replace HSC:=mk0 (Kd.C_below (d:=k60) (A:=Bs) (n:=s.length) (xs:=s) (by with_reducible repeat (first|exact HSC.1|refine Kd.C_alloc ?_ _|refine Kd.C_drew ?_)) hb);replace HTC:=mk0 (Kd.C_below (d:=k60) (A:=Bt) (n:=t.length) (xs:=t) (by with_reducible repeat (first|exact HTC.1|refine Kd.C_alloc ?_ _|refine Kd.C_drew ?_)) hb)
        replace HRC:=mk0 (Kd.C_below HRC.1 hb)
        replace HZ:=mk0 (below_step HZ.1 hb)
        have HPC:=mk0 (Kd.F_now hF)
        have HPL:=mk0 hl
        clear hcd
        have hcd:=(HS.1 _ (below_step HW0.1 HZ.1)).1
        clear hb hl hF
        have HCK:Aside0 (∀ (g:Nat) (W:World),Below w8.heap.size w8 W → W.heap[g]?=some (.cells #[.slice Bq q.length eq'] 22 (0,0)) → Calls Try.prog 19 #[.int .i64 d,.slice (some ⟨g,0,none⟩) 1 1] W fun e w'=>e=.returned (.int .i64 q0)∧Below W.heap.size W w'):=⟨fun g W hW hg=>bellpullref05_Check.calls k d (some ⟨g,0,none⟩) 1 [q] q0 W (C_one_row hg (Kd.C_below HPC.1 hW) HPL.1) (Nat.le_refl _) HR2.1⟩
        go_wp2_with (fail)
        (with_reducible refine (HCK.1 _ _ (below_alloc (Below.refl _ _) _) (blk_new _ _)).mono ?_)
        rintro e w9 ⟨rfl,hb⟩
        have hb9:=below_step (below_alloc (Below.refl w8.heap.size w8) (.cells #[.slice Bq q.length eq'] 22)) hb
        by_cases hq:q0=0
        · have hqt:(q0 != 0)=false:=bne_eq_false_iff_eq.mpr hq
          rw [if_pos hq] at h2
          subst h2
          clear hq hb
          go_wp2
          go_meet
          case rel=>exact ⟨Bq,eq',by rw [show z=0 from beq_iff_eq.mp hbt],rfl,HPL,⟨Kd.C_below HPC.1 hb9⟩,⟨Kd.C_below HRC.1 hb9⟩,⟨Kd.C_below HSC.1 hb9⟩,⟨Kd.C_below HTC.1 hb9⟩,⟨below_step HZ.1 hb9⟩⟩
        · have hqt:(q0 != 0)=true:=bne_iff_ne.mpr hq
          rw [if_neg hq] at h2
          subst h2
          clear hq hb
          go_wp2
          go_meet
          case rel=>exact ⟨Bq,eq',rfl,rfl,HPL,⟨Kd.C_below HPC.1 hb9⟩,⟨Kd.C_below HRC.1 hb9⟩,⟨Kd.C_below HSC.1 hb9⟩,⟨Kd.C_below HTC.1 hb9⟩,⟨below_step HZ.1 hb9⟩⟩
      · rw [sums_ref,if_neg hb0] at hp
        obtain ⟨h1,h2⟩:=Prod.mk.inj (Option.some.inj hp)
        subst h1
        subst h2
        have hbt:(z == 0)=false:=beq_eq_false_iff_ne.mpr hb0
        clear hp hb0
        go_wp2
        go_meet
        case rel=>exact ⟨none,0,rfl,rfl,⟨Nat.le_refl _⟩,⟨Kd.C_nil k60 _⟩,HRC,HSC,HTC,HZ⟩
    case rest =>
      clear HSC HTC HZ HRC
      obtain ⟨Bq,eq',rfl,rfl,HTL2,HTC2,HRC,HSC,HTC,HZ⟩:=hcut
      have HBW:=mk0 (below_step HB.1 (below_step HW0.1 HZ.1))
      have fin:∀ W,Aside0 (Below wc.heap.size wc W) → Calls Try.prog 22 #[] W fun e w'=>e=.returned (.bool r)∧Below w.heap.size w w':=fun W hW=>by
        refine (bellpulllaw05_lives.calls k r W HLV.1).mono ?_
        rintro e w' ⟨rfl,hb⟩
        exact ⟨rfl,below_step HBW.1 (below_step hW.1 hb)⟩
      have FIN:=mk0 fin
      have HZ:=mk0 (Below.refl wc.heap.size wc)
      clear fin
      have he1:=HE1.1
      have he2:=HE2.1
      by_cases hpe:pe=0
      · rw [if_pos hpe] at he1
        subst hpe
        have HSM:=mk0 (fun W (hW:Below wc.heap.size wc W)=>bellpullref05_Same.calls k Bs es s Bp ep p true W (Kd.C_below HSC.1 hW) HSL.1 (Kd.C_below HRC.1 hW) HRL.1 he1)
        clear he1
        by_cases hqe:qe=0
        · rw [if_pos hqe] at he2
          subst hqe
          have HTM:=mk0 (fun W (hW:Below wc.heap.size wc W)=>bellpullref05_Same.calls k Bt et t Bq eq' q true W (Kd.C_below HTC.1 hW) HTL.1 (Kd.C_below HTC2.1 hW) HTL2.1 he2)
          clear he2
          go_wp2_with (first
            | (go_at_call 31;(with_reducible refine (HSM.1 _ (by with_reducible repeat (first|exact HZ.1|apply below_alloc|apply Below.drew))).mono ?_);rintro e w8 ⟨rfl,hb⟩;replace HZ:=mk0 (below_step (by with_reducible repeat (first|exact HZ.1|apply below_alloc|apply Below.drew)) hb);clear hb)
            | (go_at_call 31;(with_reducible refine (HTM.1 _ (by with_reducible repeat (first|exact HZ.1|apply below_alloc|apply Below.drew))).mono ?_);rintro e w8 ⟨rfl,hb⟩;replace HZ:=mk0 (below_step (by with_reducible repeat (first|exact HZ.1|apply below_alloc|apply Below.drew)) hb);clear hb)
            | (go_at_call 22;(with_reducible refine (FIN.1 _ ⟨by with_reducible repeat (first|exact HZ.1|apply below_alloc|apply Below.drew)⟩).mono ?_);rintro e w9 ⟨rfl,hb⟩;have HF:=mk0 hb;clear hb))
          go_ret
          exact ⟨rfl,HF.1⟩
        · rw [if_neg hqe] at he2
          have ht:t=[]:=of_decide_eq_true (Option.some.inj he2)
          subst ht
          have hq1:(qe != 0)=true:=bne_iff_ne.mpr hqe
          clear he2 hqe
          go_wp2_with (first
            | (go_at_call 31;(with_reducible refine (HSM.1 _ (by with_reducible repeat (first|exact HZ.1|apply below_alloc|apply Below.drew))).mono ?_);rintro e w8 ⟨rfl,hb⟩;replace HZ:=mk0 (below_step (by with_reducible repeat (first|exact HZ.1|apply below_alloc|apply Below.drew)) hb);clear hb)
            | (go_at_call 22;(with_reducible refine (FIN.1 _ ⟨by with_reducible repeat (first|exact HZ.1|apply below_alloc|apply Below.drew)⟩).mono ?_);rintro e w9 ⟨rfl,hb⟩;have HF:=mk0 hb;clear hb))
          go_ret
          exact ⟨rfl,HF.1⟩
      · rw [if_neg hpe] at he1
        have hs:s=[]:=of_decide_eq_true (Option.some.inj he1)
        subst hs
        have hp1:(pe != 0)=true:=bne_iff_ne.mpr hpe
        have hp2:(pe == 0)=false:=beq_eq_false_iff_ne.mpr hpe
        clear he1 hpe
        by_cases hqe:qe=0
        · rw [if_pos hqe] at he2
          subst hqe
          have HTM:=mk0 (fun W (hW:Below wc.heap.size wc W)=>bellpullref05_Same.calls k Bt et t Bq eq' q true W (Kd.C_below HTC.1 hW) HTL.1 (Kd.C_below HTC2.1 hW) HTL2.1 he2)
          clear he2
          go_wp2_with (first
            | (go_at_call 31;(with_reducible refine (HTM.1 _ (by with_reducible repeat (first|exact HZ.1|apply below_alloc|apply Below.drew))).mono ?_);rintro e w8 ⟨rfl,hb⟩;replace HZ:=mk0 (below_step (by with_reducible repeat (first|exact HZ.1|apply below_alloc|apply Below.drew)) hb);clear hb)
            | (go_at_call 22;(with_reducible refine (FIN.1 _ ⟨by with_reducible repeat (first|exact HZ.1|apply below_alloc|apply Below.drew)⟩).mono ?_);rintro e w9 ⟨rfl,hb⟩;have HF:=mk0 hb;clear hb))
          go_ret
          exact ⟨rfl,HF.1⟩
        · rw [if_neg hqe] at he2
          have ht:t=[]:=of_decide_eq_true (Option.some.inj he2)
          subst ht
          have hq1:(qe != 0)=true:=bne_iff_ne.mpr hqe
          clear he2 hqe
          go_wp2_with (first
            | (go_at_call 22;(with_reducible refine (FIN.1 _ ⟨by with_reducible repeat (first|exact HZ.1|apply below_alloc|apply Below.drew)⟩).mono ?_);rintro e w9 ⟨rfl,hb⟩;have HF:=mk0 hb;clear hb))
          go_ret
          exact ⟨rfl,HF.1⟩
end Go.Proofs.Ytkonljiembcdlaa.PC
namespace Go.Proofs.Ytkonljiembcdlaa.PC
open Go.Proofs.MyWords Go.RowKit Go.Proofs.YtkonljiembcdlaaW.PrintWords Go.Proofs.YtkonljiembcdlaaW.PrintLast Go.Proofs.YtkonljiembcdlaaW.PrintMore
attribute [local go_sem] max2_int min2_int max_two min_two max_three min_three max_four min_four   -- for this text's walks alone
set_option linter.unusedVariables false
set_option linter.unusedSimpArgs false
attribute [local go_sem] eqGuard_slices eqlnil23 neqnil23 eqlnil58 neqnil58
end Go.Proofs.Ytkonljiembcdlaa.PC
namespace Go.Proofs.Ytkonljiembcdlaa.PC
open Go.Proofs.MyWords Go.RowKit Go.Proofs.YtkonljiembcdlaaW.PrintWords Go.Proofs.YtkonljiembcdlaaW.PrintLast Go.Proofs.YtkonljiembcdlaaW.PrintMore
attribute [local go_sem] max2_int min2_int max_two min_two max_three min_three max_four min_four   -- for this text's walks alone
set_option linter.unusedVariables false
set_option linter.unusedSimpArgs false
attribute [local go_sem] eqGuard_slices eqlnil23 neqnil23 eqlnil58 neqnil58
end Go.Proofs.Ytkonljiembcdlaa.PC
namespace Go.Proofs.Ytkonljiembcdlaa.PC
open Go.Proofs.MyWords Go.RowKit Go.Proofs.YtkonljiembcdlaaW.PrintWords Go.Proofs.YtkonljiembcdlaaW.PrintLast Go.Proofs.YtkonljiembcdlaaW.PrintMore
attribute [local go_sem] max2_int min2_int max_two min_two max_three min_three max_four min_four   -- for this text's walks alone
set_option linter.unusedVariables false
set_option linter.unusedSimpArgs false
attribute [local go_sem] eqGuard_slices eqlnil23 neqnil23 eqlnil58 neqnil58
end Go.Proofs.Ytkonljiembcdlaa.PC
namespace Go.Proofs.Ytkonljiembcdlaa.PC
open Go.Proofs.MyWords Go.RowKit Go.Proofs.YtkonljiembcdlaaW.PrintWords Go.Proofs.YtkonljiembcdlaaW.PrintLast Go.Proofs.YtkonljiembcdlaaW.PrintMore
attribute [local go_sem] max2_int min2_int max_two min_two max_three min_three max_four min_four   -- for this text's walks alone
set_option linter.unusedVariables false
set_option linter.unusedSimpArgs false
attribute [local go_sem] eqGuard_slices eqlnil23 neqnil23 eqlnil58 neqnil58
end Go.Proofs.Ytkonljiembcdlaa.PC
/- Small tools for statements of the form 'with enough rounds the answer is r'. -/
set_option linter.unusedVariables false
set_option linter.unusedSimpArgs false
namespace Go.Proofs.Ytkonljiembcdlaa.Pure
open Go.RowKit Go.Proofs.YtkonljiembcdlaaW.PrintWords
theorem wrap_id {x:Int} (h0:-9223372036854775808 ≤ x) (h1:x ≤ 9223372036854775807):wrap64 x=x:=by
  unfold wrap64;omega
section
variable {α β:Type} {g a b:Nat → Option α} {r:α}
theorem Ev.rounds (h:Ev g r):∃ k,g k=some r:=by
  obtain ⟨K,hK⟩:=h
  exact ⟨K,hK K (Nat.le_refl _)⟩
theorem Ev.succ (h:Ev (fun k=>g (k + 1)) r):Ev g r:=Ev.step (fun _=>rfl) h
theorem Ev.pos {c:Prop} [Decidable c] (hc:c) (h:Ev a r):Ev (fun k=>if c then a k else b k) r:=by
  simpa only [if_pos hc] using h
theorem Ev.neg {c:Prop} [Decidable c] (hc:¬ c) (h:Ev b r):Ev (fun k=>if c then a k else b k) r:=by
  simpa only [if_neg hc] using h
theorem Ev.bindc {o:Option β} {f:Nat → β → Option α} {x:β} (ho:o=some x) (h:Ev (fun k=>f k x) r):Ev (fun k=>o.bind (f k)) r:=by
  subst ho;simpa only [Option.bind_some] using h
theorem Ev.const {o:Option α} (h:o=some r):Ev (fun _=>o) r:=⟨0,fun _ _=>h⟩
end
theorem rd_app (pre:List Int) (x:Int) (t:List Int):rd (pre ++ x :: t) (pre.length:Int)=x:=by
  simp [rd,List.getD_eq_getElem?_getD]
end Go.Proofs.Ytkonljiembcdlaa.Pure
/- Sums of periods, in plain Lean. -/
set_option linter.unusedVariables false
namespace Go.Proofs.Ytkonljiembcdlaa.Sem
abbrev Vec:=List Int
def addV:Vec → Vec → Vec
  | x :: v,y :: w=>(x + y) :: addV v w
  | _,_=>[]
def zeroN (d:Nat):Vec:=List.replicate d 0
def nnV (v:Vec):Prop:=∀ x,x ∈ v → 0 ≤ x
instance (v:Vec):Decidable (nnV v):=by unfold nnV;infer_instance
theorem addV_comm:∀ v w:Vec,addV v w=addV w v
  | [],[]=>rfl
  | [],y :: w=>rfl
  | x :: v,[]=>rfl
  | x :: v,y :: w=>by rw [addV,addV,addV_comm v w,Int.add_comm]
theorem addV_assoc:∀ v w u:Vec,addV (addV v w) u=addV v (addV w u)
  | [],w,u=>by simp [addV]
  | x :: v,[],u=>by simp [addV]
  | x :: v,y :: w,[]=>by simp [addV]
  | x :: v,y :: w,z :: u=>by rw [addV,addV,addV,addV,addV_assoc v w u,Int.add_assoc]
theorem addV_len {d:Nat}:∀ {v w:Vec},v.length=d → w.length=d → (addV v w).length=d:=by
  induction d with
  | zero=>intro v w hv hw;rw [List.length_eq_zero_iff.1 hv,List.length_eq_zero_iff.1 hw];rfl
  | succ d ih =>
    intro v w hv hw
    match v,w,hv,hw with
    | x :: v,y :: w,hv,hw=>simp at hv hw;simp [addV,ih hv hw]
theorem zeroN_len (d:Nat):(zeroN d).length=d:=List.length_replicate
theorem zeroN_mem {d:Nat} {x:Int} (h:x ∈ zeroN d):x=0:=List.eq_of_mem_replicate h
theorem zeroN_succ (d:Nat):zeroN (d + 1)=0 :: zeroN d:=rfl
theorem addV_zero:∀ {v:Vec} {d:Nat},v.length=d → addV v (zeroN d)=v
  | [],0,_=>rfl
  | x :: v,d + 1,h=>by
    simp at h
    rw [zeroN_succ,addV,addV_zero h,Int.add_zero]
theorem zero_addV {v:Vec} {d:Nat} (h:v.length=d):addV (zeroN d) v=v:=by rw [addV_comm,addV_zero h]
theorem nn_addV:∀ {v w:Vec},nnV v → nnV w → nnV (addV v w)
  | [],w,_,_=>by intro x hx;simp [addV] at hx
  | x :: v,[],_,_=>by intro x hx;simp [addV] at hx
  | x :: v,y :: w,hv,hw=>by
    intro z hz
    rw [addV] at hz
    rcases List.mem_cons.1 hz with rfl|hz
    · have:=hv x (by simp)
      have:=hw y (by simp)
      omega
    · exact nn_addV (fun a ha=>hv a (by simp [ha])) (fun a ha=>hw a (by simp [ha])) z hz
theorem nn_zeroN (d:Nat):nnV (zeroN d):=fun x hx=>by rw [zeroN_mem hx];decide
inductive Comb (d:Nat) (ps:List Vec):Vec → Prop
  | zero:Comb d ps (zeroN d)
  | add {p w}:p ∈ ps → Comb d ps w → Comb d ps (addV w p)
section
variable {d:Nat} {ps:List Vec}
end
end Go.Proofs.Ytkonljiembcdlaa.Sem
/- Differences of vectors, and sums of periods, as the program and the reference take them, in plain Lean. -/
set_option linter.unusedVariables false
set_option linter.unusedSimpArgs false
namespace Go.Proofs.Ytkonljiembcdlaa.Pure
open Go.RowKit Go.Proofs.MyWords Go.Proofs.YtkonljiembcdlaaW.PrintWords Go.Proofs.YtkonljiembcdlaaW.PrintLast Go.Proofs.YtkonljiembcdlaaW.PrintMore Go.Proofs.Ytkonljiembcdlaa.PC Go.Proofs.Ytkonljiembcdlaa.Sem
theorem getD_app {α:Type} (pre:List α) (x:α) (t:List α) (d:α):(pre ++ x :: t).getD ((pre.length:Int)).toNat d=x:=by
  simp [List.getD_eq_getElem?_getD]
theorem rdL1_app (pre:List (List Int)) (x:List Int) (t:List (List Int)):rd_L1 (pre ++ x :: t) (pre.length:Int)=x:=getD_app _ _ _ _
theorem rdL4_app (pre:List (List S60)) (x:List S60) (t:List (List S60)):rd_L4 (pre ++ x :: t) (pre.length:Int)=x:=getD_app _ _ _ _
theorem rdT60_app (pre:List S60) (x:S60) (t:List S60):rd_T60 (pre ++ x :: t) (pre.length:Int)=x:=getD_app _ _ _ _
theorem wsucc {n:Nat} (h:n < 4611686018427387904):wrap64 ((n:Int) + 1)=((n + 1:Nat):Int):=by rw [wrap_id (by omega) (by omega)];omega
theorem len_snoc {α:Type} (pre:List α) (x:α):pre.length + 1=(pre ++ [x]).length:=by simp
theorem app_snoc {α:Type} (pre:List α) (x:α) (t:List α):pre ++ x :: t=(pre ++ [x]) ++ t:=by simp
theorem lt_app {α:Type} (pre:List α) (x:α) (t:List α):(pre.length:Int) < ((pre ++ x :: t).length:Int):=by simp;omega
theorem set_app {α:Type} (pre:List α) (x y:α) (t:List α):(pre ++ x :: t).set ((pre.length:Int)).toNat y=pre ++ y :: t:=by simp
def inB (m:Int) (v:List Int):Prop:=∀ x,x ∈ v → 0 ≤ x∧x ≤ m
theorem inB.nn {m:Int} {v:List Int} (h:inB m v):nnV v:=fun x hx=>(h x hx).1
theorem outside_iff (v:List Int) (m:Int):(v.any fun x=>decide (x < 0) || decide (m < x))=true ↔ ¬ inB m v:=by
  rw [List.any_eq_true]
  constructor
  · rintro ⟨x,hx,h⟩ hi
    have:=hi x hx
    simp at h
    omega
  · intro h
    apply Classical.byContradiction
    intro h2
    refine h (fun x hx=>?_)
    apply Classical.byContradiction
    intro h3
    exact h2 ⟨x,hx,by simp;omega⟩
end Go.Proofs.Ytkonljiembcdlaa.Pure
/- Has, of the program and of the reference, in plain Lean. -/
set_option linter.unusedVariables false
set_option linter.unusedSimpArgs false
namespace Go.Proofs.Ytkonljiembcdlaa.Pure
open Go.RowKit Go.Proofs.MyWords Go.Proofs.YtkonljiembcdlaaW.PrintWords Go.Proofs.YtkonljiembcdlaaW.PrintLast Go.Proofs.YtkonljiembcdlaaW.PrintMore Go.Proofs.Ytkonljiembcdlaa.PC Go.Proofs.Ytkonljiembcdlaa.Sem
def okV (d:Nat) (m:Int) (v:List Int):Prop:=v.length=d∧inB m v
theorem okV.mono {d:Nat} {m n:Int} {v:List Int} (h:okV d m v) (hm:m ≤ n):okV d n v:=⟨h.1,fun x hx=>⟨(h.2 x hx).1,by have:=h.2 x hx;omega⟩⟩
def okP (d:Nat) (ps:List (List Int)):Prop:=∀ p,p ∈ ps → okV d 1000000 p
def okL (d:Nat) (l:S60):Prop:=okV d 1000000 l.f0∧okP d l.f1∧l.f1.length ≤ 1000000
end Go.Proofs.Ytkonljiembcdlaa.Pure
/- Sums of sets of vectors, and all sums, in plain Lean. -/
set_option linter.unusedVariables false
namespace Go.Proofs.Ytkonljiembcdlaa.Sem
open Go.Proofs.Ytkonljiembcdlaa.PC Go.Proofs.Ytkonljiembcdlaa.Pure
def sumE (a b:S60):S60:=⟨addV a.f0 b.f0,a.f1 ++ b.f1⟩
def sumL (x y:List S60):List S60:=x.flatMap fun a=>y.map (sumE a)
inductive StarV (d:Nat) (P:Vec → Prop):Vec → Prop
  | zero:StarV d P (zeroN d)
  | add {u w}:P u → StarV d P w → StarV d P (addV w u)
def sumB (d:Nat):List S60 → Vec
  | []=>zeroN d
  | a :: t=>addV a.f0 (sumB d t)
def starOf (d:Nat) (ch:List S60):S60:=⟨sumB d ch,ch.flatMap fun a=>a.f0 :: a.f1⟩
section
variable {d:Nat}
theorem sumB_len:∀ {ch:List S60},(∀ a,a ∈ ch → okL d a) → (sumB d ch).length=d∧nnV (sumB d ch)
  | [],_=>⟨zeroN_len d,nn_zeroN d⟩
  | a :: t,h=>by
    have ih:=sumB_len (ch:=t) (fun x hx=>h x (by simp [hx]))
    have ha:=(h a (by simp)).1
    exact ⟨addV_len ha.1 ih.1,nn_addV ha.2.nn ih.2⟩
theorem ins {ch x:List S60} (h:ch.Sublist x) (a:S60) (ha:a ∈ x):a ∈ ch ∨ ∃ c2:List S60,c2.Sublist x∧c2.Perm (a :: ch):=by
  induction h with
  | slnil=>simp at ha
  | @cons c x b hs ih =>
    rcases List.mem_cons.1 ha with rfl|ha
    · exact .inr ⟨a :: c,hs.cons_cons a,List.Perm.refl _⟩
    · rcases ih ha with h|⟨c2,h1,h2⟩
      · exact .inl h
      · exact .inr ⟨c2,h1.cons b,h2⟩
  | @cons_cons c x b hs ih =>
    rcases List.mem_cons.1 ha with rfl|ha
    · exact .inl (by simp)
    · rcases ih ha with h|⟨c2,h1,h2⟩
      · exact .inl (by simp [h])
      · exact .inr ⟨b :: c2,h1.cons_cons b,(h2.cons b).trans (List.Perm.swap a b c)⟩
end
def pickN:Nat → List S60 → List S60
  | _,[]=>[]
  | c,a :: t=>if c % 2=1 then a :: pickN (c / 2) t else pickN (c / 2) t
theorem pick_sub:∀ (x:List S60) (c:Nat),(pickN c x).Sublist x
  | [],c=>List.nil_sublist _
  | a :: t,c=>by
    rw [pickN]
    split
    · exact (pick_sub t (c / 2)).cons_cons a
    · exact (pick_sub t (c / 2)).cons a
theorem pick_zero:∀ x:List S60,pickN 0 x=[]
  | []=>rfl
  | a :: t=>by rw [pickN,if_neg (by decide)];exact pick_zero t
def starL (d:Nat) (x:List S60):List S60:=(List.range (2 ^ x.length)).map fun c=>starOf d (pickN c x)
end Go.Proofs.Ytkonljiembcdlaa.Sem
/- Which error semilinear sets have, by the program and by the reference, in plain Lean. -/
set_option linter.unusedVariables false
set_option linter.unusedSimpArgs false
namespace Go.Proofs.Ytkonljiembcdlaa.Pure
open Go.RowKit Go.Proofs.MyWords Go.Proofs.YtkonljiembcdlaaW.PrintWords Go.Proofs.YtkonljiembcdlaaW.PrintLast Go.Proofs.YtkonljiembcdlaaW.PrintMore Go.Proofs.Ytkonljiembcdlaa.PC Go.Proofs.Ytkonljiembcdlaa.Sem
def farV (v:List Int):Bool:=v.any fun x=>decide (x < 0) || decide (20 < x)
def oddV (d:Int) (v:List Int):Bool:=(v.length:Int) != d
def longS (s:List S60):Bool:=s.any (fun l=>decide ((l.f1.length:Int) > 4)) || decide ((s.length:Int) > 8)
def wideS (s:List S60):Bool:=s.any fun l=>farV l.f0 || l.f1.any farV
def oddS (d:Int) (s:List S60):Bool:=s.any fun l=>oddV d l.f0 || l.f1.any (oddV d)
def badD (d:Int):Bool:=decide (d < 1) || decide (d > 3)
def chk (d:Int) (ss:List (List S60)):Int:=if ss.any longS=true then 3 else if (badD d || ss.any wideS)=true then 1 else if ss.any (oddS d)=true then 2 else 0
def short {α:Type} (l:List α):Prop:=l.length < 1000000000
theorem short.tail {α:Type} {x:α} {l:List α} (h:short (x :: l)):short l:=by unfold short at *;simp at h;omega
section
variable (d:Int) (lg:Bool) (ss:List (List S60)) (n2 i2:Int) (set:List S60) (n1 i1:Int)
theorem check_l2:∀ (t pre:List (List Int)) (fr od:Bool) (r:Int),short (pre ++ t) → Ev (fun k=>count_check.l1 k d lg (fr || t.any farV) (od || t.any (oddV d)) ss n2 i2 set n1 (wrap64 (i1 + 1))) r →
    Ev (fun k=>count_check.l2 k d lg fr od ss n2 i2 set n1 i1 (pre ++ t) ((pre ++ t).length:Int) (pre.length:Int)) r
  | [],pre,fr,od,r,hs,h=>by
    refine Ev.succ ?_
    simp only [count_check.l2]
    refine Ev.neg (by simp) ?_
    simpa using h
  | p :: t,pre,fr,od,r,hs,h=>by
    have ws:wrap64 ((pre.length:Int) + 1)=((pre.length + 1:Nat):Int):=wsucc (by unfold short at hs;simp at hs;omega)
    have ih:∀ fr od,Ev (fun k=>count_check.l1 k d lg (fr || t.any farV) (od || t.any (oddV d)) ss n2 i2 set n1 (wrap64 (i1 + 1))) r → Ev (fun k=>count_check.l2 k d lg fr od ss n2 i2 set n1 i1 (pre ++ p :: t) ((pre ++ p :: t).length:Int) ((pre.length + 1:Nat):Int)) r:=fun fr od h2=>by
      have:=check_l2 t (pre ++ [p]) fr od r (by rw [← app_snoc];exact hs) h2
      rw [← app_snoc,← len_snoc] at this
      exact this
    rw [List.any_cons,List.any_cons,← Bool.or_assoc,← Bool.or_assoc] at h
    refine Ev.succ ?_
    simp only [count_check.l2,rdL1_app,ws]
    refine Ev.pos (lt_app _ _ _) (Ev.pos (by omega) (Ev.pos (lt_app _ _ _) ?_))
    have inner:∀ f2,f2=(fr || farV p) → Ev (fun k=>if od=true then count_check.l2 k d lg f2 true ss n2 i2 set n1 i1 (pre ++ p :: t) ((pre ++ p :: t).length:Int) ((pre.length + 1:Nat):Int) else count_check.l2 k d lg f2 ((p.length:Int) != d) ss n2 i2 set n1 i1 (pre ++ p :: t) ((pre ++ p :: t).length:Int) ((pre.length + 1:Nat):Int)) r:=fun f2 e=>by
      subst e
      cases od with
      | true=>exact Ev.pos rfl (ih _ _ h)
      | false=>exact Ev.neg (by simp) (ih _ _ h)
    cases fr with
    | true=>exact Ev.pos rfl (inner _ rfl)
    | false =>
      refine Ev.neg (by simp) ?_
      refine Ev.bindc (x:=farV p) rfl ?_
      exact inner _ rfl
end
theorem check_l1 (d:Int) (ss:List (List S60)) (n2 i2:Int):∀ (t pre:List S60) (lg fr od:Bool) (r:Int),short (pre ++ t) → (∀ l,l ∈ t → short l.f1) →
    Ev (fun k=>count_check.l0 k d (lg || t.any (fun l=>decide ((l.f1.length:Int) > 4))) (fr || wideS t) (od || oddS d t) ss n2 (wrap64 (i2 + 1))) r →
    Ev (fun k=>count_check.l1 k d lg fr od ss n2 i2 (pre ++ t) ((pre ++ t).length:Int) (pre.length:Int)) r
  | [],pre,lg,fr,od,r,hs,hp,h=>by
    refine Ev.succ ?_
    simp only [count_check.l1]
    refine Ev.neg (by simp) ?_
    simpa [wideS,oddS] using h
  | l :: t,pre,lg,fr,od,r,hs,hp,h=>by
    have ws:wrap64 ((pre.length:Int) + 1)=((pre.length + 1:Nat):Int):=wsucc (by unfold short at hs;simp at hs;omega)
    have ih:∀ lg fr od,Ev (fun k=>count_check.l0 k d (lg || t.any (fun l=>decide ((l.f1.length:Int) > 4))) (fr || wideS t) (od || oddS d t) ss n2 (wrap64 (i2 + 1))) r → Ev (fun k=>count_check.l1 k d lg fr od ss n2 i2 (pre ++ l :: t) ((pre ++ l :: t).length:Int) ((pre.length + 1:Nat):Int)) r:=fun lg fr od h2=>by
      have:=check_l1 d ss n2 i2 t (pre ++ [l]) lg fr od r (by rw [← app_snoc];exact hs) (fun x hx=>hp x (by simp [hx])) h2
      rw [← app_snoc,← len_snoc] at this
      exact this
    have e1:wideS (l :: t)=(farV l.f0 || l.f1.any farV || wideS t):=by unfold wideS;rw [List.any_cons]
    have e2:oddS d (l :: t)=(oddV d l.f0 || l.f1.any (oddV d) || oddS d t):=by unfold oddS;rw [List.any_cons]
    rw [List.any_cons,e1,e2,← Bool.or_assoc,← Bool.or_assoc,← Bool.or_assoc,← Bool.or_assoc,← Bool.or_assoc] at h
    have s6:∀ lg fr od,Ev (fun k=>count_check.l0 k d (lg || t.any (fun l=>decide ((l.f1.length:Int) > 4))) (fr || l.f1.any farV || wideS t) (od || l.f1.any (oddV d) || oddS d t) ss n2 (wrap64 (i2 + 1))) r → Ev (fun k=>count_check.j6 k d lg fr od ss n2 i2 (pre ++ l :: t) ((pre ++ l :: t).length:Int) (pre.length:Int) l.f0 l.f1) r:=fun lg fr od h2=>by
      refine Ev.succ ?_
      simp only [count_check.j6]
      refine check_l2 d lg ss n2 i2 _ _ _ l.f1 [] fr od r (hp l (by simp)) ?_
      rw [ws]
      exact ih _ _ _ h2
    have s5:∀ lg fr od,Ev (fun k=>count_check.l0 k d (lg || t.any (fun l=>decide ((l.f1.length:Int) > 4))) (fr || l.f1.any farV || wideS t) (od || oddV d l.f0 || l.f1.any (oddV d) || oddS d t) ss n2 (wrap64 (i2 + 1))) r → Ev (fun k=>count_check.j5 k d lg fr od ss n2 i2 (pre ++ l :: t) ((pre ++ l :: t).length:Int) (pre.length:Int) l.f0 l.f1) r:=fun lg fr od h2=>by
      refine Ev.succ ?_
      simp only [count_check.j5]
      cases od with
      | true=>exact Ev.pos rfl (s6 _ _ _ (by simpa using h2))
      | false=>exact Ev.neg (by simp) (s6 _ _ _ (by simpa [oddV] using h2))
    have s4:∀ lg fr od,Ev (fun k=>count_check.l0 k d (lg || t.any (fun l=>decide ((l.f1.length:Int) > 4))) (fr || farV l.f0 || l.f1.any farV || wideS t) (od || oddV d l.f0 || l.f1.any (oddV d) || oddS d t) ss n2 (wrap64 (i2 + 1))) r → Ev (fun k=>count_check.j4 k d lg fr od ss n2 i2 (pre ++ l :: t) ((pre ++ l :: t).length:Int) (pre.length:Int) l.f0 l.f1) r:=fun lg fr od h2=>by
      refine Ev.succ ?_
      simp only [count_check.j4]
      cases fr with
      | true=>exact Ev.pos rfl (s5 _ _ _ (by simpa using h2))
      | false =>
        refine Ev.neg (by simp) ?_
        refine Ev.bindc (x:=farV l.f0) rfl ?_
        exact s5 _ _ _ (by simpa using h2)
    refine Ev.succ ?_
    simp only [count_check.l1,rdT60_app]
    refine Ev.pos (lt_app _ _ _) (Ev.pos (by omega) (Ev.pos (lt_app _ _ _) ?_))
    cases lg with
    | true=>exact Ev.pos rfl (s4 _ _ _ (by simpa using h))
    | false=>exact Ev.neg (by simp) (s4 _ _ _ (by simpa using h))
def tell (lg fr od:Bool):Int:=if lg=true then 3 else if fr=true then 1 else if od=true then 2 else 0
theorem check_l0 (d:Int):∀ (t pre:List (List S60)) (lg fr od:Bool),short (pre ++ t) → (∀ s,s ∈ t → short s∧∀ l,l ∈ s → short l.f1) →
    Ev (fun k=>count_check.l0 k d lg fr od (pre ++ t) ((pre ++ t).length:Int) (pre.length:Int)) (tell (lg || t.any longS) (fr || t.any wideS) (od || t.any (oddS d)))
  | [],pre,lg,fr,od,hs,hp=>by
    refine Ev.succ ?_
    simp only [count_check.l0]
    refine Ev.neg (by simp) ?_
    unfold tell
    cases lg
    · refine Ev.neg (by simp) ?_
      cases fr
      · refine Ev.neg (by simp) ?_
        cases od
        · exact Ev.neg (by simp) (Ev.now _)
        · exact Ev.pos rfl (Ev.now _)
      · exact Ev.pos rfl (Ev.now _)
    · exact Ev.pos rfl (Ev.now _)
  | s :: t,pre,lg,fr,od,hs,hp=>by
    have ws:wrap64 ((pre.length:Int) + 1)=((pre.length + 1:Nat):Int):=wsucc (by unfold short at hs;simp at hs;omega)
    have ih:∀ lg fr od,Ev (fun k=>count_check.l0 k d lg fr od (pre ++ s :: t) ((pre ++ s :: t).length:Int) ((pre.length + 1:Nat):Int)) (tell (lg || t.any longS) (fr || t.any wideS) (od || t.any (oddS d))):=fun lg fr od=>by
      have:=check_l0 d t (pre ++ [s]) lg fr od (by rw [← app_snoc];exact hs) (fun x hx=>hp x (by simp [hx]))
      rw [← app_snoc,← len_snoc] at this
      exact this
    have j2:∀ lg,Ev (fun k=>count_check.j2 k d lg fr od s (pre ++ s :: t) ((pre ++ s :: t).length:Int) (pre.length:Int)) (tell ((lg || s.any (fun l=>decide ((l.f1.length:Int) > 4))) || t.any longS) (fr || wideS s || t.any wideS) (od || oddS d s || t.any (oddS d))):=fun lg=>by
      refine Ev.succ ?_
      simp only [count_check.j2]
      refine check_l1 d _ _ _ s [] lg fr od _ (hp s (by simp)).1 (hp s (by simp)).2 ?_
      rw [ws]
      exact ih _ _ _
    refine Ev.succ ?_
    simp only [count_check.l0,rdL4_app]
    refine Ev.pos (lt_app _ _ _) (Ev.pos (by omega) (Ev.pos (lt_app _ _ _) ?_))
    rw [List.any_cons,List.any_cons,List.any_cons,← Bool.or_assoc,← Bool.or_assoc,← Bool.or_assoc]
    cases lg with
    | true =>
      refine Ev.pos rfl ?_
      simpa using j2 true
    | false =>
      refine Ev.neg (by simp) ?_
      have:=j2 (decide ((s.length:Int) > 8))
      rw [Bool.or_comm (decide ((s.length:Int) > 8))] at this
      rw [Bool.false_or]
      exact this
theorem check_ev (d:Int) (ss:List (List S60)) (hs:short ss) (hp:∀ s,s ∈ ss → short s∧∀ l,l ∈ s → short l.f1):Ev (fun k=>count_check.f k d ss) (chk d ss):=by
  have go:∀ fr,Ev (fun k=>count_check.j0 k d ss false fr false) (tell (ss.any longS) (fr || ss.any wideS) (ss.any (oddS d))):=fun fr=>by
    refine Ev.succ ?_
    simp only [count_check.j0]
    have:=check_l0 d ss [] false fr false hs hp
    simpa using this
  unfold count_check.f
  by_cases h:d < 1
  · have e:badD d=true:=by unfold badD;simp [h]
    refine Ev.pos h ?_
    have:=go true
    unfold chk
    rw [e]
    exact this
  · have e:badD d=decide (d > 3):=by unfold badD;simp [h]
    refine Ev.neg h ?_
    have:=go (decide (d > 3))
    unfold chk
    rw [e]
    exact this
theorem long_go:∀ (t pre:List S60),short (pre ++ t) → Ev (fun k=>bellpullref05_Long.l0 k (pre ++ t) (pre.length:Int)) (t.any (fun l=>decide ((l.f1.length:Int) > 4)) || decide (((pre ++ t).length:Int) > 8))
  | [],pre,hs=>by
    refine Ev.succ ?_
    simp only [bellpullref05_Long.l0]
    refine Ev.neg (by simp) ?_
    simp only [List.any_nil,Bool.false_or]
    exact Ev.now _
  | l :: t,pre,hs=>by
    have ws:wrap64 ((pre.length:Int) + 1)=((pre.length + 1:Nat):Int):=wsucc (by unfold short at hs;simp at hs;omega)
    have ih:=long_go t (pre ++ [l]) (by rw [← app_snoc];exact hs)
    rw [← app_snoc,← len_snoc] at ih
    refine Ev.succ ?_
    simp only [bellpullref05_Long.l0,rdT60_app,ws]
    refine Ev.pos (lt_app _ _ _) (Ev.pos (by omega) ?_)
    rw [List.any_cons]
    by_cases h:(l.f1.length:Int) > 4
    · rw [decide_eq_true h,Bool.true_or,Bool.true_or]
      exact Ev.pos h (Ev.now _)
    · rw [decide_eq_false h,Bool.false_or]
      exact Ev.neg h ih
theorem wide_go (m:Int):∀ (t pre:List Int),short (pre ++ t) → Ev (fun k=>bellpullref05_wide.l0 k (pre ++ t) m (pre.length:Int)) (t.any fun x=>decide (x < 0) || decide (m < x))
  | [],pre,hs=>by
    refine Ev.succ ?_
    simp only [bellpullref05_wide.l0]
    exact Ev.neg (by simp) (Ev.now _)
  | x :: t,pre,hs=>by
    have ws:wrap64 ((pre.length:Int) + 1)=((pre.length + 1:Nat):Int):=wsucc (by unfold short at hs;simp at hs;omega)
    have ih:=wide_go m t (pre ++ [x]) (by rw [← app_snoc];exact hs)
    rw [← app_snoc,← len_snoc] at ih
    refine Ev.succ ?_
    simp only [bellpullref05_wide.l0,rd_app,ws]
    refine Ev.pos (lt_app _ _ _) (Ev.pos (by omega) ?_)
    refine Ev.bindc (x:=!(decide (x < 0) || decide (m < x))) (by
      unfold bellpullref01_In.f
      by_cases h:x ≥ 0
      · rw [if_pos h,decide_eq_false (show ¬ x < 0 by omega),Bool.false_or]
        congr 1
        by_cases h2:x ≤ m
        · rw [decide_eq_true h2,decide_eq_false (by omega)];rfl
        · rw [decide_eq_false h2,decide_eq_true (by omega)];rfl
      · rw [if_neg h,decide_eq_true (show x < 0 by omega)];rfl) ?_
    rw [List.any_cons]
    cases hx:(decide (x < 0) || decide (m < x))
    · rw [Bool.false_or];exact Ev.pos rfl ih
    · exact Ev.neg (by simp) (Ev.now _)
theorem wide_ev (v:List Int) (hs:short v) (m:Int):Ev (fun k=>bellpullref05_wide.f k v m) (v.any fun x=>decide (x < 0) || decide (m < x)):=wide_go m v [] hs
theorem vectors_f (l:S60) (h:short l.f1):bellpullref05_vectors.f l.f0 l.f1=some (l.f0 :: l.f1):=by
  unfold bellpullref05_vectors.f short at *
  rw [Option.bind_some,if_pos (by simp;omega)]
  rfl
def shortL (l:S60):Prop:=short l.f0∧short (l.f0 :: l.f1)∧∀ p,p ∈ l.f1 → short p
def shortS (s:List S60):Prop:=short s∧∀ l,l ∈ s → shortL l
theorem Wide_l1 (set:List S60) (i:Int):∀ (t pre:List (List Int)) (r:Bool),short (pre ++ t) → (∀ p,p ∈ t → short p) → (t.any farV=false → Ev (fun k=>bellpullref05_Wide.l0 k set (wrap64 (i + 1))) r) → Ev (fun k=>bellpullref05_Wide.l1 k set i (pre ++ t) (pre.length:Int)) (t.any farV || r)
  | [],pre,r,hs,hp,h=>by
    refine Ev.succ ?_
    simp only [bellpullref05_Wide.l1]
    refine Ev.neg (by simp) ?_
    rw [List.any_nil,Bool.false_or]
    exact h rfl
  | p :: t,pre,r,hs,hp,h=>by
    have ws:wrap64 ((pre.length:Int) + 1)=((pre.length + 1:Nat):Int):=wsucc (by unfold short at hs;simp at hs;omega)
    refine Ev.succ ?_
    simp only [bellpullref05_Wide.l1,rdL1_app,ws]
    refine Ev.pos (lt_app _ _ _) (Ev.pos (by omega) (Ev.bind (wide_ev p (hp p (by simp)) 20) ?_))
    rw [List.any_cons]
    change Ev (fun k=>if farV p=true then _ else _) _
    cases hf:farV p with
    | true=>exact Ev.pos rfl (Ev.now _)
    | false =>
      have ih:=Wide_l1 set i t (pre ++ [p]) r (by rw [← app_snoc];exact hs) (fun x hx=>hp x (by simp [hx])) (fun h2=>h (by rw [List.any_cons,hf,h2];rfl))
      rw [← app_snoc,← len_snoc] at ih
      exact Ev.neg (by simp) ih
theorem Wide_l0:∀ (t pre:List S60),short (pre ++ t) → (∀ l,l ∈ t → shortL l) → Ev (fun k=>bellpullref05_Wide.l0 k (pre ++ t) (pre.length:Int)) (wideS t)
  | [],pre,hs,hp=>by
    refine Ev.succ ?_
    simp only [bellpullref05_Wide.l0]
    exact Ev.neg (by simp) (Ev.now _)
  | l :: t,pre,hs,hp=>by
    have ws:wrap64 ((pre.length:Int) + 1)=((pre.length + 1:Nat):Int):=wsucc (by unfold short at hs;simp at hs;omega)
    have ih:=Wide_l0 t (pre ++ [l]) (by rw [← app_snoc];exact hs) (fun x hx=>hp x (by simp [hx]))
    rw [← app_snoc,← len_snoc] at ih
    obtain ⟨h0,h1,h2⟩:=hp l (by simp)
    refine Ev.succ ?_
    simp only [bellpullref05_Wide.l0,rdT60_app]
    refine Ev.pos (lt_app _ _ _) (Ev.pos (by omega) (Ev.bindc (vectors_f l h1.tail) ?_))
    have:=Wide_l1 (pre ++ l :: t) (pre.length:Int) (l.f0 :: l.f1) [] (wideS t) h1 (fun p hp=>by
      rcases List.mem_cons.1 hp with rfl|hp
      · exact h0
      · exact h2 p hp) (fun _=>by rw [ws];exact ih)
    have e1:wideS (l :: t)=((l.f0 :: l.f1).any farV || wideS t):=by unfold wideS;rw [List.any_cons,List.any_cons]
    rw [e1]
    exact this
theorem Odd_l1 (d:Int) (set:List S60) (i:Int):∀ (t pre:List (List Int)) (r:Bool),short (pre ++ t) → Ev (fun k=>bellpullref05_Odd.l0 k d set (wrap64 (i + 1))) r → Ev (fun k=>bellpullref05_Odd.l1 k d set i (pre ++ t) (pre.length:Int)) (t.any (oddV d) || r)
  | [],pre,r,hs,h=>by
    refine Ev.succ ?_
    simp only [bellpullref05_Odd.l1]
    refine Ev.neg (by simp) ?_
    rw [List.any_nil,Bool.false_or]
    exact h
  | p :: t,pre,r,hs,h=>by
    have ws:wrap64 ((pre.length:Int) + 1)=((pre.length + 1:Nat):Int):=wsucc (by unfold short at hs;simp at hs;omega)
    refine Ev.succ ?_
    simp only [bellpullref05_Odd.l1,rdL1_app,ws]
    refine Ev.pos (lt_app _ _ _) (Ev.pos (by omega) ?_)
    rw [List.any_cons]
    by_cases hf:(p.length:Int)=d
    · have ih:=Odd_l1 d set i t (pre ++ [p]) r (by rw [← app_snoc];exact hs) h
      rw [← app_snoc,← len_snoc] at ih
      have:oddV d p=false:=by unfold oddV;simp [hf]
      rw [this,Bool.false_or]
      exact Ev.pos hf ih
    · have:oddV d p=true:=by unfold oddV;simp [hf]
      rw [this]
      exact Ev.neg hf (Ev.now _)
theorem Odd_l0 (d:Int):∀ (t pre:List S60),short (pre ++ t) → (∀ l,l ∈ t → shortL l) → Ev (fun k=>bellpullref05_Odd.l0 k d (pre ++ t) (pre.length:Int)) (oddS d t)
  | [],pre,hs,hp=>by
    refine Ev.succ ?_
    simp only [bellpullref05_Odd.l0]
    exact Ev.neg (by simp) (Ev.now _)
  | l :: t,pre,hs,hp=>by
    have ws:wrap64 ((pre.length:Int) + 1)=((pre.length + 1:Nat):Int):=wsucc (by unfold short at hs;simp at hs;omega)
    have ih:=Odd_l0 d t (pre ++ [l]) (by rw [← app_snoc];exact hs) (fun x hx=>hp x (by simp [hx]))
    rw [← app_snoc,← len_snoc] at ih
    obtain ⟨h0,h1,h2⟩:=hp l (by simp)
    refine Ev.succ ?_
    simp only [bellpullref05_Odd.l0,rdT60_app]
    refine Ev.pos (lt_app _ _ _) (Ev.pos (by omega) (Ev.bindc (vectors_f l h1.tail) ?_))
    have:=Odd_l1 d (pre ++ l :: t) (pre.length:Int) (l.f0 :: l.f1) [] (oddS d t) h1 (by rw [ws];exact ih)
    have e1:oddS d (l :: t)=((l.f0 :: l.f1).any (oddV d) || oddS d t):=by unfold oddS;rw [List.any_cons,List.any_cons]
    rw [e1]
    exact this
theorem inD (d:Int):bellpullref01_In.f d 1 3=some (!badD d):=by
  unfold bellpullref01_In.f badD
  by_cases h:d ≥ 1
  · rw [if_pos h,decide_eq_false (show ¬ d < 1 by omega),Bool.false_or]
    congr 1
    by_cases h2:d ≤ 3
    · rw [decide_eq_true h2,decide_eq_false (by omega)];rfl
    · rw [decide_eq_false h2,decide_eq_true (by omega)];rfl
  · rw [if_neg h,decide_eq_true (show d < 1 by omega)];rfl
theorem Check_l2 (d:Int) (hd:badD d=false):∀ (t pre:List (List S60)),short (pre ++ t) → (∀ s,s ∈ t → shortS s) → Ev (fun k=>bellpullref05_Check.l2 k d (pre ++ t) (pre.length:Int)) (if t.any (oddS d)=true then 2 else 0)
  | [],pre,hs,hp=>by
    refine Ev.succ ?_
    simp only [bellpullref05_Check.l2]
    exact Ev.neg (by simp) (Ev.now _)
  | s :: t,pre,hs,hp=>by
    have ws:wrap64 ((pre.length:Int) + 1)=((pre.length + 1:Nat):Int):=wsucc (by unfold short at hs;simp at hs;omega)
    have ih:=Check_l2 d hd t (pre ++ [s]) (by rw [← app_snoc];exact hs) (fun x hx=>hp x (by simp [hx]))
    rw [← app_snoc,← len_snoc] at ih
    have ho:Ev (fun k=>bellpullref05_Odd.f k d s) (oddS d s):=Odd_l0 d s [] (hp s (by simp)).1 (hp s (by simp)).2
    refine Ev.succ ?_
    simp only [bellpullref05_Check.l2,rdL4_app,ws]
    refine Ev.pos (lt_app _ _ _) (Ev.pos (by omega) (Ev.bind ho ?_))
    rw [List.any_cons]
    cases h:oddS d s
    · rw [Bool.false_or];exact Ev.neg (by simp) ih
    · exact Ev.pos rfl (Ev.now _)
theorem Check_l1 (d:Int) (all:List (List S60)) (r:Int) (hr:badD d=false → Ev (fun k=>bellpullref05_Check.l2 k d all 0) r):∀ (t pre:List (List S60)),all=pre ++ t → short (pre ++ t) → (∀ s,s ∈ t → shortS s) → Ev (fun k=>bellpullref05_Check.l1 k d all (pre.length:Int)) (if (badD d || t.any wideS)=true then 1 else r)
  | [],pre,ha,hs,hp=>by
    subst ha
    refine Ev.succ ?_
    simp only [bellpullref05_Check.l1]
    refine Ev.neg (by simp) (Ev.bindc (inD d) ?_)
    rw [List.any_nil,Bool.or_false]
    cases h:badD d
    · exact Ev.pos rfl (hr h)
    · exact Ev.neg (by simp) (Ev.now _)
  | s :: t,pre,ha,hs,hp=>by
    have ws:wrap64 ((pre.length:Int) + 1)=((pre.length + 1:Nat):Int):=wsucc (by unfold short at hs;simp at hs;omega)
    have ih:=Check_l1 d all r hr t (pre ++ [s]) (by rw [← app_snoc];exact ha) (by rw [← app_snoc];exact hs) (fun x hx=>hp x (by simp [hx]))
    rw [← len_snoc] at ih
    subst ha
    have hw:Ev (fun k=>bellpullref05_Wide.f k d s) (badD d || wideS s):=by
      unfold bellpullref05_Wide.f
      refine Ev.bindc (inD d) ?_
      cases h:badD d
      · rw [Bool.false_or];exact Ev.pos rfl (Wide_l0 s [] (hp s (by simp)).1 (hp s (by simp)).2)
      · exact Ev.neg (by simp) (Ev.now _)
    refine Ev.succ ?_
    simp only [bellpullref05_Check.l1,rdL4_app,ws]
    refine Ev.pos (lt_app _ _ _) (Ev.pos (by omega) (Ev.bind hw ?_))
    rw [List.any_cons]
    cases h:badD d
    · rw [h] at ih
      cases h2:wideS s
      · rw [Bool.false_or,Bool.false_or];exact Ev.neg (by simp) (by simpa using ih)
      · exact Ev.pos rfl (Ev.now _)
    · rw [Bool.true_or,Bool.true_or];exact Ev.pos rfl (Ev.now _)
theorem Check_l0 (d:Int) (all:List (List S60)) (r:Int) (hr:Ev (fun k=>bellpullref05_Check.l1 k d all 0) r):∀ (t pre:List (List S60)),all=pre ++ t → short (pre ++ t) → (∀ s,s ∈ t → shortS s) → Ev (fun k=>bellpullref05_Check.l0 k d all (pre.length:Int)) (if t.any longS=true then 3 else r)
  | [],pre,ha,hs,hp=>by
    subst ha
    refine Ev.succ ?_
    simp only [bellpullref05_Check.l0]
    exact Ev.neg (by simp) hr
  | s :: t,pre,ha,hs,hp=>by
    have ws:wrap64 ((pre.length:Int) + 1)=((pre.length + 1:Nat):Int):=wsucc (by unfold short at hs;simp at hs;omega)
    have ih:=Check_l0 d all r hr t (pre ++ [s]) (by rw [← app_snoc];exact ha) (by rw [← app_snoc];exact hs) (fun x hx=>hp x (by simp [hx]))
    rw [← len_snoc] at ih
    subst ha
    have hw:Ev (fun k=>bellpullref05_Long.f k s) (longS s):=long_go s [] (hp s (by simp)).1
    refine Ev.succ ?_
    simp only [bellpullref05_Check.l0,rdL4_app,ws]
    refine Ev.pos (lt_app _ _ _) (Ev.pos (by omega) (Ev.bind hw ?_))
    rw [List.any_cons]
    cases h2:longS s
    · rw [Bool.false_or];exact Ev.neg (by simp) ih
    · exact Ev.pos rfl (Ev.now _)
theorem refCheck_ev (d:Int) (ss:List (List S60)) (hs:short ss) (hp:∀ s,s ∈ ss → shortS s):Ev (fun k=>bellpullref05_Check.f k d ss) (chk d ss):=by
  unfold chk
  exact Check_l0 d ss _ (Check_l1 d ss _ (fun h=>Check_l2 d h ss [] hs hp) ss [] rfl hs hp) ss [] rfl hs hp
def okSet (d:Nat) (s:List S60):Prop:=s.length ≤ 8∧∀ l,l ∈ s → okV d 20 l.f0∧l.f1.length ≤ 4∧∀ p,p ∈ l.f1 → okV d 20 p
theorem farV_iff (v:List Int):farV v=false ↔ inB 20 v:=by
  have:=outside_iff v 20
  unfold farV
  rw [← Bool.not_eq_true,this]
  exact ⟨fun h=>Classical.byContradiction h,fun h h2=>h2 h⟩
theorem oddV_iff (d:Int) (v:List Int):oddV d v=false ↔ (v.length:Int)=d:=by unfold oddV;simp
theorem chk_ok {d:Int} {ss:List (List S60)}:chk d ss=0 ↔ (1 ≤ d∧d ≤ 3)∧∀ s,s ∈ ss → okSet d.toNat s:=by
  have hl:∀ s,longS s=false ↔ s.length ≤ 8∧∀ l,l ∈ s → l.f1.length ≤ 4:=fun s=>by
    unfold longS
    rw [Bool.or_eq_false_iff,← Bool.not_eq_true,List.any_eq_true,decide_eq_false_iff_not]
    constructor
    · rintro ⟨h1,h2⟩
      exact ⟨by omega,fun l hl=>Nat.le_of_not_lt (fun h=>h1 ⟨l,hl,decide_eq_true (by omega)⟩)⟩
    · rintro ⟨h1,h2⟩
      exact ⟨fun ⟨l,hl,h⟩=>by have:=h2 l hl;have:=of_decide_eq_true h;omega,by omega⟩
  have hw:∀ s,wideS s=false ↔ ∀ l,l ∈ s → inB 20 l.f0∧∀ p,p ∈ l.f1 → inB 20 p:=fun s=>by
    unfold wideS
    rw [← Bool.not_eq_true,List.any_eq_true]
    constructor
    · intro h l hl
      have:(farV l.f0 || l.f1.any farV)=false:=by
        rw [← Bool.not_eq_true];exact fun h2=>h ⟨l,hl,h2⟩
      rw [Bool.or_eq_false_iff,← Bool.not_eq_true (l.f1.any farV),List.any_eq_true] at this
      exact ⟨(farV_iff _).1 this.1,fun p hp=>(farV_iff _).1 (by rw [← Bool.not_eq_true];exact fun h2=>this.2 ⟨p,hp,h2⟩)⟩
    · rintro h ⟨l,hl,h2⟩
      rcases (Bool.or_eq_true _ _).mp h2 with h2|h2
      · rw [(farV_iff _).2 (h l hl).1] at h2;cases h2
      · obtain ⟨p,hp,h2⟩:=List.any_eq_true.1 h2
        rw [(farV_iff _).2 ((h l hl).2 p hp)] at h2;cases h2
  have ho:∀ s,oddS d s=false ↔ ∀ l,l ∈ s → (l.f0.length:Int)=d∧∀ p,p ∈ l.f1 → (p.length:Int)=d:=fun s=>by
    unfold oddS
    rw [← Bool.not_eq_true,List.any_eq_true]
    constructor
    · intro h l hl
      have:(oddV d l.f0 || l.f1.any (oddV d))=false:=by
        rw [← Bool.not_eq_true];exact fun h2=>h ⟨l,hl,h2⟩
      rw [Bool.or_eq_false_iff,← Bool.not_eq_true (l.f1.any (oddV d)),List.any_eq_true] at this
      exact ⟨(oddV_iff _ _).1 this.1,fun p hp=>(oddV_iff _ _).1 (by rw [← Bool.not_eq_true];exact fun h2=>this.2 ⟨p,hp,h2⟩)⟩
    · rintro h ⟨l,hl,h2⟩
      rcases (Bool.or_eq_true _ _).mp h2 with h2|h2
      · rw [(oddV_iff _ _).2 (h l hl).1] at h2;cases h2
      · obtain ⟨p,hp,h2⟩:=List.any_eq_true.1 h2
        rw [(oddV_iff _ _).2 ((h l hl).2 p hp)] at h2;cases h2
  have anyF:∀ (f:List S60 → Bool),ss.any f=false ↔ ∀ s,s ∈ ss → f s=false:=fun f=>by
    rw [← Bool.not_eq_true,List.any_eq_true]
    exact ⟨fun h s hs=>by rw [← Bool.not_eq_true];exact fun h2=>h ⟨s,hs,h2⟩,fun h ⟨s,hs,h2⟩=>by rw [h s hs] at h2;cases h2⟩
  have hb:badD d=false ↔ 1 ≤ d∧d ≤ 3:=by unfold badD;rw [Bool.or_eq_false_iff,decide_eq_false_iff_not,decide_eq_false_iff_not];omega
  have h0:chk d ss=0 ↔ ss.any longS=false∧badD d=false∧ss.any wideS=false∧ss.any (oddS d)=false:=by
    unfold chk
    cases ss.any longS <;> cases badD d <;> cases ss.any wideS <;> cases ss.any (oddS d) <;> simp
  rw [h0,anyF,anyF,anyF,hb]
  constructor
  · rintro ⟨h1,h2,h3,h4⟩
    refine ⟨h2,fun s hs=>⟨((hl s).1 (h1 s hs)).1,fun l hls=>?_⟩⟩
    have q3:=(hw s).1 (h3 s hs) l hls
    have q4:=(ho s).1 (h4 s hs) l hls
    exact ⟨⟨by omega,q3.1⟩,((hl s).1 (h1 s hs)).2 l hls,fun p hp=>⟨by have:=q4.2 p hp;omega,q3.2 p hp⟩⟩
  · rintro ⟨h1,h2⟩
    refine ⟨fun s hs=>(hl s).2 ⟨(h2 s hs).1,fun l hls=>((h2 s hs).2 l hls).2.1⟩,h1,fun s hs=>(hw s).2 (fun l hls=>?_),fun s hs=>(ho s).2 (fun l hls=>?_)⟩
    · have:=(h2 s hs).2 l hls
      exact ⟨this.1.2,fun p hp=>(this.2.2 p hp).2⟩
    · have:=(h2 s hs).2 l hls
      exact ⟨by have:=this.1.1;omega,fun p hp=>by have:=(this.2.2 p hp).1;omega⟩
end Go.Proofs.Ytkonljiembcdlaa.Pure
/- The program's sums and stars of semilinear sets, in plain Lean. -/
set_option linter.unusedVariables false
set_option linter.unusedSimpArgs false
namespace Go.Proofs.Ytkonljiembcdlaa.Pure
open Go.RowKit Go.Proofs.MyWords Go.Proofs.YtkonljiembcdlaaW.PrintWords Go.Proofs.YtkonljiembcdlaaW.PrintLast Go.Proofs.YtkonljiembcdlaaW.PrintMore Go.Proofs.Ytkonljiembcdlaa.PC Go.Proofs.Ytkonljiembcdlaa.Sem
theorem plus_go:∀ (v2 w2 v1 w1 o1:List Int),v1.length=w1.length → o1.length=v1.length → v2.length=w2.length → inB 1000000 v2 → inB 1000000 w2 → (v1 ++ v2).length < 1000000 →
    Ev (fun k=>count_plus.l0 k (v1 ++ v2) (w1 ++ w2) (o1 ++ List.replicate v2.length 0) ((v1 ++ v2).length:Int) (v1.length:Int)) (o1 ++ addV v2 w2)
  | [],[],v1,w1,o1,h1,h2,h3,b1,b2,hl=>by
    refine Ev.succ ?_
    simp only [count_plus.l0]
    refine Ev.neg (by simp) ?_
    simp [addV]
    exact Ev.now _
  | x :: v2,y :: w2,v1,w1,o1,h1,h2,h3,b1,b2,hl=>by
    have ih:=plus_go v2 w2 (v1 ++ [x]) (w1 ++ [y]) (o1 ++ [x + y]) (by simp [h1]) (by simp [h2]) (by simpa using h3) (fun z hz=>b1 z (by simp [hz])) (fun z hz=>b2 z (by simp [hz])) (by simp at hl ⊢;omega)
    have bx:=b1 x (by simp)
    have by':=b2 y (by simp)
    refine Ev.succ ?_
    simp only [count_plus.l0]
    refine Ev.pos (by simp;omega) (Ev.pos (by omega) (Ev.pos (by simp;omega) (Ev.pos (by simp;omega) (Ev.pos (by simp;omega) ?_))))
    rw [rd_app v1 x v2,show (v1.length:Int)=(w1.length:Int) by omega,rd_app w1 y w2,← h1,wrap_id (by omega) (by omega),wsucc (by simp at hl;omega)]
    rw [← app_snoc,← app_snoc] at ih
    have e:(o1 ++ List.replicate (x :: v2).length 0).set ((v1.length:Int)).toNat (x + y)=o1 ++ [x + y] ++ List.replicate v2.length 0:=by
      rw [← h2,List.length_cons,List.replicate_succ,set_app];simp
    rw [e,len_snoc v1 x,addV]
    rw [List.append_assoc o1 [x + y] (addV v2 w2)] at ih
    exact ih
theorem plus_ev {v w:List Int} (h:v.length=w.length) (hv:inB 1000000 v) (hw:inB 1000000 w) (hl:v.length < 1000000):Ev (fun k=>count_plus.f k v w) (addV v w):=by
  have:=plus_go v w [] [] [] rfl rfl h hv hw hl
  simp only [List.nil_append,List.length_nil] at this
  unfold count_plus.f
  refine Ev.pos (by omega) (Ev.pos (by omega) ?_)
  rw [Int.toNat_natCast]
  exact this
theorem copies_go:∀ (t pre:List (List Int)),(pre ++ t).length < 1000000 → (∀ p,p ∈ t → p.length ≤ 5000000) → Ev (fun k=>count_copies.l0 k pre (pre ++ t) ((pre ++ t).length:Int) (pre.length:Int)) (pre ++ t)
  | [],pre,hl,hp=>by
    refine Ev.succ ?_
    simp only [count_copies.l0]
    refine Ev.neg (by simp) ?_
    rw [List.append_nil]
    exact Ev.now _
  | p :: t,pre,hl,hp=>by
    have ih:=copies_go t (pre ++ [p]) (by rw [← app_snoc];exact hl) (fun q hq=>hp q (by simp [hq]))
    rw [← app_snoc,← len_snoc] at ih
    have hl2:pre.length < 1000000:=by simp at hl;omega
    refine Ev.succ ?_
    simp only [count_copies.l0,rdL1_app,wsucc (show pre.length < 4611686018427387904 by omega)]
    refine Ev.pos (lt_app _ _ _) (Ev.pos (by omega) (Ev.pos (lt_app _ _ _) ?_))
    exact Ev.bindc (if_pos (hp p (by simp))) (Ev.pos (by omega) ih)
theorem copies_ev {ps:List (List Int)} (hl:ps.length < 1000000) (hp:∀ p,p ∈ ps → p.length ≤ 5000000):Ev (fun k=>count_copies.f k ps) ps:=copies_go ps [] hl hp
def midL (d:Nat) (l:S60):Prop:=okV d 1000 l.f0∧l.f1.length ≤ 1000∧∀ p,p ∈ l.f1 → okV d 1000 p
theorem midL.okL {d:Nat} {l:S60} (h:midL d l):okL d l:=⟨h.1.mono (by decide),fun p hp=>(h.2.2 p hp).mono (by decide),by have:=h.2.1;omega⟩
theorem el_ev {d:Nat} (hd:d ≤ 3) {a b:S60} (ha:midL d a) (hb:midL d b):Ev (fun k=>count_sum.el k a b) (sumE a b):=by
  unfold count_sum.el
  have e:=plus_ev (ha.1.1.trans hb.1.1.symm) (ha.1.mono (n:=1000000) (by decide)).2 (hb.1.mono (n:=1000000) (by decide)).2 (by have:=ha.1.1;omega)
  have hlen:(a.f1 ++ b.f1).length ≤ 2000:=by rw [List.length_append];have:=ha.2.1;have:=hb.2.1;omega
  refine Ev.bind e (Ev.pos (by omega) (Ev.bind (copies_ev (by omega) (fun p hp=>?_)) (Ev.now _)))
  rcases List.mem_append.1 hp with hp|hp
  · have:=(ha.2.2 p hp).1;omega
  · have:=(hb.2.2 p hp).1;omega
theorem row_ev {d:Nat} (hd:d ≤ 3) {a:S60} (ha:midL d a):∀ y:List S60,(∀ b,b ∈ y → midL d b) → Ev (fun k=>count_sum.row k a y) (y.map (sumE a))
  | [],_=>Ev.now _
  | b :: y,h=>Ev.bind (el_ev hd ha (h b (by simp))) (Ev.bind (row_ev hd ha y (fun c hc=>h c (by simp [hc]))) (Ev.now _))
theorem sum_ev {d:Nat} (hd:d ≤ 3) {x y:List S60} (hx:∀ a,a ∈ x → midL d a) (hy:∀ a,a ∈ y → midL d a) (h1:x.length ≤ 5000) (h2:y.length ≤ 5000):Ev (fun k=>count_sum.f k x y) (sumL x y):=by
  have go:∀ x:List S60,(∀ a,a ∈ x → midL d a) → Ev (fun k=>count_sum.g k y x) (sumL x y):=fun x=>by
    induction x with
    | nil=>exact fun _=>Ev.now _
    | cons a x ih=>exact fun h=>Ev.bind (row_ev hd (h a (by simp)) y hy) (Ev.bind (ih (fun c hc=>h c (by simp [hc]))) (Ev.now _))
  unfold count_sum.f
  exact Ev.pos ⟨h1,h2⟩ (go x hx)
theorem bit_f:∀ c:Nat,c < 256 → Go.bits .and .i64 ((c:Nat):Int) 1=((c % 2:Nat):Int):=by decide +kernel
theorem shr_f (c i:Nat) (hi:i ≤ 60):shr .i64 (c:Int) (i:Int)=((c / 2 ^ i:Nat):Int):=by
  unfold shr
  rw [Int.toNat_natCast,Nat.min_eq_left (by show i ≤ 64;omega),Int.natCast_ediv,Int.natCast_pow]
  rfl
theorem shl_f:∀ n:Nat,n ≤ 8 → shl .i64 1 ((n:Nat):Int)=((2 ^ n:Nat):Int):=fun n hn=>by
  have:n=0 ∨ n=1 ∨ n=2 ∨ n=3 ∨ n=4 ∨ n=5 ∨ n=6 ∨ n=7 ∨ n=8:=by omega
  rcases this with rfl|rfl|rfl|rfl|rfl|rfl|rfl|rfl|rfl <;> decide +kernel
theorem okSet.mid {d:Nat} {s:List S60} (h:okSet d s):∀ l,l ∈ s → midL d l:=fun l hl=>by
  have:=h.2 l hl
  exact ⟨this.1.mono (by decide),by omega,fun p hp=>(this.2.2 p hp).mono (by decide)⟩
theorem inB_addV {m n:Int}:∀ {v w:List Int},inB m v → inB n w → inB (m + n) (addV v w)
  | [],w,_,_=>by intro x hx;simp [addV] at hx
  | x :: v,[],_,_=>by intro x hx;simp [addV] at hx
  | x :: v,y :: w,hv,hw=>by
    intro z hz
    rw [addV] at hz
    rcases List.mem_cons.1 hz with rfl|hz
    · have:=hv x (by simp)
      have:=hw y (by simp)
      omega
    · exact inB_addV (fun a ha=>hv a (by simp [ha])) (fun a ha=>hw a (by simp [ha])) z hz
section
variable {d:Nat} (hd:d ≤ 3) (x:List S60) (hx:okSet d x)
include hd hx
theorem star_l1 (out:List S60) (ho:out.length < 1000000) (c:Nat) (hc:c < 256) (r:List S60):∀ (t pre:List S60) (b:List Int) (ps:List (List Int)),x=pre ++ t → b.length=d → inB (20 * pre.length) b → ps.length ≤ 5 * pre.length → (∀ p,p ∈ ps → p.length=d) →
    Ev (fun k=>count_star.l0 k (d:Int) x (out ++ [⟨addV b (sumB d (pickN (c / 2 ^ pre.length) t)),ps ++ (pickN (c / 2 ^ pre.length) t).flatMap fun a=>a.f0 :: a.f1⟩]) (wrap64 ((c:Int) + 1))) r →
    Ev (fun k=>count_star.l1 k (d:Int) x out (c:Int) x (x.length:Int) (pre.length:Int) b ps) r
  | [],pre,b,ps,e,hb,ib,hps,hpl,h=>by
    refine Ev.succ ?_
    simp only [count_star.l1]
    have hl:x.length=pre.length:=by rw [e];simp
    refine Ev.neg (by omega) (Ev.pos (by omega) ?_)
    rw [pickN,sumB,addV_zero hb,List.flatMap_nil,List.append_nil] at h
    exact h
  | a :: t,pre,b,ps,e,hb,ib,hps,hpl,h=>by
    have hl:x.length=pre.length + (t.length + 1):=by rw [e];simp
    have h8:pre.length ≤ 7:=by have:=hx.1;omega
    have ha:=hx.2 a (by rw [e];simp)
    have h1:rd_T60 x (pre.length:Int)=a:=by rw [e];exact rdT60_app _ _ _
    have ih:=fun b ps=>star_l1 out ho c hc r t (pre ++ [a]) b ps (by rw [e];simp)
    have e2:c / 2 ^ (pre ++ [a]).length=c / 2 ^ pre.length / 2:=by rw [← len_snoc,Nat.pow_succ,Nat.div_div_eq_div_mul]
    rw [e2,← len_snoc] at ih
    have hq:c / 2 ^ pre.length < 256:=Nat.lt_of_le_of_lt (Nat.div_le_self _ _) hc
    refine Ev.succ ?_
    simp only [count_star.l1,h1,shr_f c pre.length (by omega),wsucc (show pre.length < 4611686018427387904 by omega),bit_f _ hq]
    refine Ev.pos (by omega) (Ev.pos (by omega) (Ev.pos (by omega) ?_))
    rw [pickN] at h
    by_cases hbit:c / 2 ^ pre.length % 2=1
    · rw [if_pos hbit,sumB,← addV_assoc,List.flatMap_cons,← List.append_assoc] at h
      have ibm:inB 1000000 b:=fun z hz=>⟨(ib z hz).1,by have:=(ib z hz).2;omega⟩
      have ep:=plus_ev (hb.trans ha.1.1.symm) ibm (ha.1.mono (n:=1000000) (by decide)).2 (by omega)
      have hcop:=copies_ev (ps:=a.f0 :: a.f1) (by have:=ha.2.1;simp;omega) (fun p hp=>by
        rcases List.mem_cons.1 hp with rfl|hp
        · have:=ha.1.1;omega
        · have:=(ha.2.2 p hp).1;omega)
      have l5:(a.f0 :: a.f1).length ≤ 5:=by have:=ha.2.1;simp;omega
      refine Ev.pos (by omega) (Ev.bind ep (Ev.bindc rfl (Ev.pos (by simp;omega) (Ev.bind hcop (Ev.pos (by omega) ?_)))))
      refine ih _ _ (addV_len hb ha.1.1) (fun z hz=>?_) (by rw [List.length_append];omega) (fun p hp=>?_) h
      · have:=inB_addV ib ha.1.2 z hz
        rw [Int.natCast_succ];omega
      · rcases List.mem_append.1 hp with hp|hp
        · exact hpl p hp
        · rcases List.mem_cons.1 hp with rfl|hp
          · exact ha.1.1
          · exact (ha.2.2 p hp).1
    · rw [if_neg hbit] at h
      refine Ev.neg (by omega) (ih b ps hb (fun z hz=>?_) (by omega) hpl h)
      have:=ib z hz
      rw [Int.natCast_succ];omega
theorem star_l0:∀ (n c:Nat),2 ^ x.length - c=n → c ≤ 2 ^ x.length → 1 ≤ c → Ev (fun k=>count_star.l0 k (d:Int) x ((List.range c).map fun c=>starOf d (pickN c x)) (c:Int)) (starL d x):=by
  have hp:2 ^ x.length ≤ 256:=Nat.pow_le_pow_right (n:=2) (by omega) hx.1
  intro n
  induction n with
  | zero =>
    intro c hn hc h1
    have e:c=2 ^ x.length:=by omega
    refine Ev.succ ?_
    simp only [count_star.l0,shl_f x.length hx.1]
    refine Ev.neg (by omega) ?_
    rw [e]
    exact Ev.now _
  | succ n ih =>
    intro c hn hc h1
    have ih:=ih (c + 1) (by omega) (by omega) (by omega)
    refine Ev.succ ?_
    simp only [count_star.l0,shl_f x.length hx.1]
    refine Ev.pos (by omega) (Ev.pos (by omega) (Ev.pos (by omega) ?_))
    rw [Int.toNat_natCast]
    refine star_l1 hd x hx _ (by simp;omega) c (by omega) _ x [] (List.replicate d 0) [] rfl (by simp) (fun z hz=>by rw [List.eq_of_mem_replicate hz];simp) (by simp) (fun p hp=>by simp at hp) ?_
    rw [wsucc (by omega),List.length_nil,Nat.pow_zero,Nat.div_one,List.nil_append]
    rw [List.range_succ,List.map_append] at ih
    have e:addV (List.replicate d 0) (sumB d (pickN c x))=sumB d (pickN c x):=zero_addV (sumB_len (fun a ha=>(hx.mid a ((pick_sub x c).subset ha)).okL)).1
    rw [e]
    exact ih
theorem star_ev:Ev (fun k=>count_star.f k (d:Int) x) (starL d x):=by
  unfold count_star.f
  refine Ev.pos (by omega) (Ev.pos (by omega) ?_)
  have:=star_l0 hd x hx _ 1 rfl (Nat.one_le_two_pow) (Nat.le_refl _)
  have e:((List.range 1).map fun c=>starOf d (pickN c x))=[⟨List.replicate ((d:Int)).toNat 0,[]⟩]:=by
    rw [Int.toNat_natCast]
    show [starOf d (pickN 0 x)]=_
    rw [pick_zero];rfl
  rw [e] at this
  exact this
end
theorem inB_sumB {d:Nat}:∀ {ch:List S60},(∀ a,a ∈ ch → okV d 20 a.f0) → inB (20 * ch.length) (sumB d ch)
  | [],_=>fun z hz=>by rw [zeroN_mem hz];simp
  | a :: t,h=>fun z hz=>by
    have:=inB_addV (h a (by simp)).2 (inB_sumB (ch:=t) (fun b hb=>h b (by simp [hb]))) z hz
    rw [List.length_cons,Int.natCast_succ];omega
theorem star_mid {d:Nat} {x:List S60} (hx:okSet d x):(starL d x).length ≤ 256∧∀ l,l ∈ starL d x → midL d l:=by
  have hp:2 ^ x.length ≤ 256:=Nat.pow_le_pow_right (n:=2) (by omega) hx.1
  unfold starL
  refine ⟨by rw [List.length_map,List.length_range];exact hp,fun l hl=>?_⟩
  obtain ⟨c,_,rfl⟩:=List.mem_map.1 hl
  have hs:=pick_sub x c
  have hl8:(pickN c x).length ≤ 8:=Nat.le_trans hs.length_le hx.1
  have flen:∀ ch:List S60,(∀ a,a ∈ ch → a.f1.length ≤ 4) → (ch.flatMap fun a=>a.f0 :: a.f1).length ≤ 5 * ch.length:=fun ch=>by
    induction ch with
    | nil=>intro _;simp
    | cons a t ih =>
      intro h
      have h1:=h a (by simp)
      have h2:=ih (fun b hb=>h b (by simp [hb]))
      rw [List.flatMap_cons,List.length_append,List.length_cons,List.length_cons]
      omega
  refine ⟨⟨(sumB_len (fun a ha=>(hx.mid a (hs.subset ha)).okL)).1,fun z hz=>?_⟩,?_,fun p hp=>?_⟩
  · have:=inB_sumB (d:=d) (fun a ha=>(hx.2 a (hs.subset ha)).1) z hz
    omega
  · have:=flen (pickN c x) (fun a ha=>(hx.2 a (hs.subset ha)).2.1)
    show ((pickN c x).flatMap fun a=>a.f0 :: a.f1).length ≤ 1000
    omega
  · obtain ⟨a,ha,hp⟩:=List.mem_flatMap.1 hp
    have:=hx.2 a (hs.subset ha)
    rcases List.mem_cons.1 hp with rfl|hp
    · exact this.1.mono (by decide)
    · exact (this.2.2 p hp).mono (by decide)
theorem sum_mid {d:Nat} {x y:List S60} (hx:okSet d x) (hy:okSet d y):(sumL x y).length ≤ 64∧∀ l,l ∈ sumL x y → midL d l:=by
  constructor
  · have:∀ x:List S60,(sumL x y).length=x.length * y.length:=fun x=>by
      induction x with
      | nil=>simp [sumL]
      | cons a x ih =>
        unfold sumL at ih ⊢
        rw [List.flatMap_cons,List.length_append,List.length_map,ih,List.length_cons,Nat.add_mul]
        omega
    rw [this]
    exact Nat.mul_le_mul hx.1 hy.1
  · intro l hl
    obtain ⟨a,ha,hl⟩:=List.mem_flatMap.1 hl
    obtain ⟨b,hb,rfl⟩:=List.mem_map.1 hl
    have h1:=hx.2 a ha
    have h2:=hy.2 b hb
    refine ⟨⟨addV_len h1.1.1 h2.1.1,fun z hz=>?_⟩,?_,fun p hp=>?_⟩
    · have:=inB_addV h1.1.2 h2.1.2 z hz
      omega
    · show (a.f1 ++ b.f1).length ≤ 1000
      rw [List.length_append];omega
    · rcases List.mem_append.1 hp with hp|hp
      · exact (h1.2.2 p hp).mono (by decide)
      · exact (h2.2.2 p hp).mono (by decide)
end Go.Proofs.Ytkonljiembcdlaa.Pure
/- The reference's sum of vectors, and of sets, in plain Lean. -/
set_option linter.unusedVariables false
set_option linter.unusedSimpArgs false
namespace Go.Proofs.Ytkonljiembcdlaa.Pure
open Go.RowKit Go.Proofs.MyWords Go.Proofs.YtkonljiembcdlaaW.PrintWords Go.Proofs.YtkonljiembcdlaaW.PrintLast Go.Proofs.YtkonljiembcdlaaW.PrintMore Go.Proofs.Ytkonljiembcdlaa.PC Go.Proofs.Ytkonljiembcdlaa.Sem
theorem rplus_l0:∀ (v w pv pw acc:List Int),pv.length=pw.length → v.length=w.length → acc.length=pv.length → pv.length + v.length ≤ 1000 → inB 1000000 v → inB 1000000 w → Ev (fun k=>bellpullref05_Plus.l0 k (pv ++ v) (pw ++ w) acc (pv.length:Int)) (acc ++ addV v w)
  | [],w,pv,pw,acc,h1,h2,h3,h4,hv,hw=>by
    refine Ev.succ ?_
    simp only [bellpullref05_Plus.l0]
    refine Ev.neg (by simp) ?_
    simp only [addV,List.append_nil]
    exact Ev.now _
  | x :: v,[],pv,pw,acc,h1,h2,h3,h4,hv,hw=>by simp at h2
  | x :: v,y :: w,pv,pw,acc,h1,h2,h3,h4,hv,hw=>by
    simp at h2 h4
    have bx:=hv x (by simp)
    have by_:=hw y (by simp)
    have e1:rd (pv ++ x :: v) (pv.length:Int)=x:=rd_app _ _ _
    have e2:rd (pw ++ y :: w) (pv.length:Int)=y:=by rw [h1];exact rd_app _ _ _
    have ih:=rplus_l0 v w (pv ++ [x]) (pw ++ [y]) (acc ++ [x + y]) (by simp [h1]) h2 (by simp [h3]) (by simp;omega) (fun z hz=>hv z (by simp [hz])) (fun z hz=>hw z (by simp [hz]))
    rw [List.append_assoc,List.append_assoc,List.append_assoc] at ih
    refine Ev.succ ?_
    simp only [bellpullref05_Plus.l0,e1,e2]
    refine Ev.pos (by simp <;> omega) (Ev.pos (by omega) (Ev.pos (by simp <;> omega) (Ev.pos (by omega) ?_)))
    rw [wrap_id (x:=x + y) (by omega) (by omega),wrap_id (x:=(pv.length:Int) + 1) (by omega) (by omega)]
    have e3:((pv ++ [x]).length:Int)=(pv.length:Int) + 1:=by simp
    rw [e3] at ih
    exact ih
theorem rplus_ev {d:Nat} {v w:List Int} (hd:d ≤ 3) (hv:okV d 1000000 v) (hw:okV d 1000000 w):Ev (fun k=>bellpullref05_Plus.f k v w) (addV v w) :=
  rplus_l0 v w [] [] [] rfl (hv.1.trans hw.1.symm) rfl (by have:=hv.1;simp;omega) hv.2 hw.2
theorem rel_ev {d:Nat} (hd:d ≤ 3) {a b:S60} (ha:midL d a) (hb:midL d b):Ev (fun k=>refSum.el k a b) (sumE a b):=by
  unfold refSum.el
  refine Ev.bind (rplus_ev hd (ha.1.mono (by decide)) (hb.1.mono (by decide))) (Ev.pos ?_ (Ev.now _))
  have:=ha.2.1
  have:=hb.2.1
  omega
theorem rrow_ev {d:Nat} (hd:d ≤ 3) {a:S60} (ha:midL d a):∀ y:List S60,(∀ b,b ∈ y → midL d b) → Ev (fun k=>pr.row (refSum.el k) a y) (y.map (sumE a))
  | [],_=>Ev.now _
  | b :: y,h=>Ev.bind (rel_ev hd ha (h b (by simp))) (Ev.bind (rrow_ev hd ha y (fun c hc=>h c (by simp [hc]))) (Ev.now _))
theorem rg_ev {d:Nat} (hd:d ≤ 3) {y:List S60} (hy:∀ b,b ∈ y → midL d b):∀ x:List S60,(∀ b,b ∈ x → midL d b) → Ev (fun k=>pr.g (refSum.el k) y x) (sumL x y)
  | [],_=>Ev.now _
  | a :: x,h=>by
    have e:sumL (a :: x) y=y.map (sumE a) ++ sumL x y:=by unfold sumL;rw [List.flatMap_cons]
    rw [e]
    exact Ev.bind (rrow_ev hd (h a (by simp)) y hy) (Ev.bind (rg_ev hd hy x (fun c hc=>h c (by simp [hc]))) (Ev.now _))
theorem rsum_ev {d:Nat} (hd:d ≤ 3) {x y:List S60} (hx:∀ a,a ∈ x → midL d a) (hy:∀ a,a ∈ y → midL d a) (h1:x.length ≤ 5000) (h2:y.length ≤ 5000):Ev (fun k=>bellpullref05_Sum.f k x y) (sumL x y):=by
  unfold bellpullref05_Sum.f
  exact Ev.pos ⟨h1,h2⟩ (rg_ev hd hy x hx)
end Go.Proofs.Ytkonljiembcdlaa.Pure
namespace Go.Proofs.Ytkonljiembcdlaa.PC
open Go.Proofs.MyWords Go.RowKit Go.Proofs.YtkonljiembcdlaaW.PrintWords Go.Proofs.YtkonljiembcdlaaW.PrintLast Go.Proofs.YtkonljiembcdlaaW.PrintMore
attribute [local go_sem] max2_int min2_int max_two min_two max_three min_three max_four min_four   -- for this text's walks alone
set_option linter.unusedVariables false
set_option linter.unusedSimpArgs false
attribute [local go_sem] eqGuard_slices eqlnil23 neqnil23 eqlnil58 neqnil58
structure TwoSets (w:World) (Ax:Option Addr) (cx:Nat) (x:List S60) (Ay:Option Addr) (cy:Nat) (y:List S60) (gx gy gm:Nat):Prop where
  lx:w.heap.size ≤ gx
  ly:w.heap.size ≤ gy
  lm:w.heap.size ≤ gm
  nx:gx ≠ gm
  ny:gy ≠ gm
  kx:Kd.C k60 w Ax x.length x
  ky:Kd.C k60 w Ay y.length y
  ex:x.length ≤ cx
  ey:y.length ≤ cy
end Go.Proofs.Ytkonljiembcdlaa.PC
namespace Go.Proofs.Ytkonljiembcdlaa.PC
open Go.Proofs.MyWords Go.RowKit Go.Proofs.YtkonljiembcdlaaW.PrintWords Go.Proofs.YtkonljiembcdlaaW.PrintLast Go.Proofs.YtkonljiembcdlaaW.PrintMore
attribute [local go_sem] max2_int min2_int max_two min_two max_three min_three max_four min_four   -- for this text's walks alone
set_option linter.unusedVariables false
set_option linter.unusedSimpArgs false
attribute [local go_sem] eqGuard_slices eqlnil23 neqnil23 eqlnil58 neqnil58
end Go.Proofs.Ytkonljiembcdlaa.PC
namespace Go.Proofs.Ytkonljiembcdlaa.PC
open Go.Proofs.MyWords Go.RowKit Go.Proofs.YtkonljiembcdlaaW.PrintWords Go.Proofs.YtkonljiembcdlaaW.PrintLast Go.Proofs.YtkonljiembcdlaaW.PrintMore
attribute [local go_sem] max2_int min2_int max_two min_two max_three min_three max_four min_four   -- for this text's walks alone
set_option linter.unusedVariables false
set_option linter.unusedSimpArgs false
attribute [local go_sem] eqGuard_slices eqlnil23 neqnil23 eqlnil58 neqnil58
end Go.Proofs.Ytkonljiembcdlaa.PC
namespace Go.Proofs.Ytkonljiembcdlaa.PC
open Go.Proofs.MyWords Go.RowKit Go.Proofs.YtkonljiembcdlaaW.PrintWords Go.Proofs.YtkonljiembcdlaaW.PrintLast Go.Proofs.YtkonljiembcdlaaW.PrintMore
attribute [local go_sem] max2_int min2_int max_two min_two max_three min_three max_four min_four   -- for this text's walks alone
set_option linter.unusedVariables false
set_option linter.unusedSimpArgs false
attribute [local go_sem] eqGuard_slices eqlnil23 neqnil23 eqlnil58 neqnil58
end Go.Proofs.Ytkonljiembcdlaa.PC
namespace Go.Proofs.Ytkonljiembcdlaa.PC
open Go.Proofs.MyWords Go.RowKit Go.Proofs.YtkonljiembcdlaaW.PrintWords Go.Proofs.YtkonljiembcdlaaW.PrintLast Go.Proofs.YtkonljiembcdlaaW.PrintMore
attribute [local go_sem] max2_int min2_int max_two min_two max_three min_three max_four min_four   -- for this text's walks alone
set_option linter.unusedVariables false
set_option linter.unusedSimpArgs false
attribute [local go_sem] eqGuard_slices eqlnil23 neqnil23 eqlnil58 neqnil58
end Go.Proofs.Ytkonljiembcdlaa.PC
namespace Go.Proofs.Ytkonljiembcdlaa.PC
open Go.Proofs.MyWords Go.RowKit Go.Proofs.YtkonljiembcdlaaW.PrintWords Go.Proofs.YtkonljiembcdlaaW.PrintLast Go.Proofs.YtkonljiembcdlaaW.PrintMore
attribute [local go_sem] max2_int min2_int max_two min_two max_three min_three max_four min_four   -- for this text's walks alone
set_option linter.unusedVariables false
set_option linter.unusedSimpArgs false
attribute [local go_sem] eqGuard_slices eqlnil23 neqnil23 eqlnil58 neqnil58
end Go.Proofs.Ytkonljiembcdlaa.PC
namespace Go.Proofs.Ytkonljiembcdlaa.PC
open Go.Proofs.MyWords Go.RowKit Go.Proofs.YtkonljiembcdlaaW.PrintWords Go.Proofs.YtkonljiembcdlaaW.PrintLast Go.Proofs.YtkonljiembcdlaaW.PrintMore
attribute [local go_sem] max2_int min2_int max_two min_two max_three min_three max_four min_four   -- for this text's walks alone
set_option linter.unusedVariables false
set_option linter.unusedSimpArgs false
attribute [local go_sem] eqGuard_slices eqlnil23 neqnil23 eqlnil58 neqnil58
end Go.Proofs.Ytkonljiembcdlaa.PC
/- The statements' measure of a long search has a value, in plain Lean. -/
set_option linter.unusedVariables false
set_option linter.unusedSimpArgs false
namespace Go.Proofs.Ytkonljiembcdlaa.Pure
open Go.RowKit Go.Proofs.MyWords Go.Proofs.YtkonljiembcdlaaW.PrintWords Go.Proofs.YtkonljiembcdlaaW.PrintLast Go.Proofs.YtkonljiembcdlaaW.PrintMore Go.Proofs.Ytkonljiembcdlaa.PC Go.Proofs.Ytkonljiembcdlaa.Sem
end Go.Proofs.Ytkonljiembcdlaa.Pure
/- A vector's total, as the program takes it, in plain Lean. -/
set_option linter.unusedVariables false
set_option linter.unusedSimpArgs false
namespace Go.Proofs.Ytkonljiembcdlaa.Pure
open Go.RowKit Go.Proofs.MyWords Go.Proofs.YtkonljiembcdlaaW.PrintWords Go.Proofs.YtkonljiembcdlaaW.PrintLast Go.Proofs.YtkonljiembcdlaaW.PrintMore Go.Proofs.Ytkonljiembcdlaa.PC Go.Proofs.Ytkonljiembcdlaa.Sem
end Go.Proofs.Ytkonljiembcdlaa.Pure
/- count.Least and count.Count in plain Lean. -/
set_option linter.unusedVariables false
set_option linter.unusedSimpArgs false
namespace Go.Proofs.Ytkonljiembcdlaa.Pure
open Go.RowKit Go.Proofs.MyWords Go.Proofs.YtkonljiembcdlaaW.PrintWords Go.Proofs.YtkonljiembcdlaaW.PrintLast Go.Proofs.YtkonljiembcdlaaW.PrintMore Go.Proofs.Ytkonljiembcdlaa.PC Go.Proofs.Ytkonljiembcdlaa.Sem
def cmpL:List Int → List Int → Int
  | [],[]=>0
  | [],_ :: _=>-1
  | _ :: _,[]=>1
  | a :: s,b :: t=>if a < b then -1 else if a > b then 1 else cmpL s t
section
variable {d:Nat} (h1:1 ≤ d) (hd:d ≤ 3) {x:List S60} (hx:okSet d x)
include h1 hd hx
end
end Go.Proofs.Ytkonljiembcdlaa.Pure
namespace Go.Proofs.Ytkonljiembcdlaa.PC
open Go.Proofs.MyWords Go.RowKit Go.Proofs.YtkonljiembcdlaaW.PrintWords Go.Proofs.YtkonljiembcdlaaW.PrintLast Go.Proofs.YtkonljiembcdlaaW.PrintMore
attribute [local go_sem] max2_int min2_int max_two min_two max_three min_three max_four min_four   -- for this text's walks alone
set_option linter.unusedVariables false
set_option linter.unusedSimpArgs false
attribute [local go_sem] eqGuard_slices eqlnil23 neqnil23 eqlnil58 neqnil58
end Go.Proofs.Ytkonljiembcdlaa.PC
/- What the statements cut off, in plain Lean. -/
set_option linter.unusedVariables false
set_option linter.unusedSimpArgs false
namespace Go.Proofs.Ytkonljiembcdlaa.Pure
open Go.RowKit Go.Proofs.MyWords Go.Proofs.YtkonljiembcdlaaW.PrintWords Go.Proofs.YtkonljiembcdlaaW.PrintLast Go.Proofs.YtkonljiembcdlaaW.PrintMore Go.Proofs.Ytkonljiembcdlaa.PC Go.Proofs.Ytkonljiembcdlaa.Sem
theorem cut_f (v:List Int):bellpulllaw05_cut.f v=some (v.take 4):=by
  unfold bellpulllaw05_cut.f mn
  rw [Option.bind_some]
  by_cases h:(4:Int) < (v.length:Int)
  · rw [if_pos h,if_pos (by omega),if_pos (by omega),Option.bind_some,if_pos (by simp;omega)]
    rfl
  · rw [if_neg h,if_pos (by omega),if_pos (by omega),Option.bind_some,Int.toNat_natCast,List.take_length,if_pos (by simp;omega),List.take_of_length_le (by omega)]
    rfl
end Go.Proofs.Ytkonljiembcdlaa.Pure
/- What the statements cut off of semilinear sets, in plain Lean. -/
set_option linter.unusedVariables false
set_option linter.unusedSimpArgs false
namespace Go.Proofs.Ytkonljiembcdlaa.Pure
open Go.RowKit Go.Proofs.MyWords Go.Proofs.YtkonljiembcdlaaW.PrintWords Go.Proofs.YtkonljiembcdlaaW.PrintLast Go.Proofs.YtkonljiembcdlaaW.PrintMore Go.Proofs.Ytkonljiembcdlaa.PC Go.Proofs.Ytkonljiembcdlaa.Sem
def cutL (l:S60):S60:=⟨l.f0.take 4,(l.f1.take 5).map (·.take 4)⟩
theorem few_l1 (set:List S60) (i:Int) (l:S60) (h0:0 ≤ i) (h1:i < (set.length:Int)) (hr:rd_T60 set i=l) (o:List S60) (ho:o.length < 1000000) (b:List Int) (r:List S60) :
    ∀ (n:Nat) (t pre:List (List Int)) (acc:List (List Int)),5 - pre.length=n → l.f1=pre ++ t → acc.length=pre.length → pre.length ≤ 5 → Ev (fun k=>bellpulllaw05_few.l0 k set (o ++ [⟨b,acc ++ (t.take n).map (·.take 4)⟩]) (wrap64 (i + 1))) r → Ev (fun k=>bellpulllaw05_few.l1 k set o i (pre.length:Int) b acc) r
  | 0,t,pre,acc,hn,e,ha,hp,h=>by
    refine Ev.succ ?_
    simp only [bellpulllaw05_few.l1,hr]
    rw [List.take_zero,List.map_nil,List.append_nil] at h
    refine Ev.pos h0 (Ev.pos h1 ?_)
    by_cases q:(pre.length:Int) < (l.f1.length:Int)
    · exact Ev.pos q (Ev.neg (by omega) (Ev.pos (by omega) h))
    · exact Ev.neg q (Ev.pos (by omega) h)
  | n + 1,[],pre,acc,hn,e,ha,hp,h=>by
    have hl1:l.f1.length=pre.length:=by rw [e];simp
    refine Ev.succ ?_
    simp only [bellpulllaw05_few.l1,hr]
    rw [List.take_nil,List.map_nil,List.append_nil] at h
    exact Ev.pos h0 (Ev.pos h1 (Ev.neg (by omega) (Ev.pos (by omega) h)))
  | n + 1,p :: t,pre,acc,hn,e,ha,hp,h=>by
    have hl1:l.f1.length=pre.length + (t.length + 1):=by rw [e];simp
    have hrd:rd_L1 l.f1 (pre.length:Int)=p:=by rw [e];exact rdL1_app _ _ _
    have ih:=few_l1 set i l h0 h1 hr o ho b r n t (pre ++ [p]) (acc ++ [p.take 4]) (by simp;omega) (by rw [e];simp) (by simp [ha]) (by simp;omega) (by
      rw [List.append_assoc];exact h)
    rw [← len_snoc] at ih
    refine Ev.succ ?_
    simp only [bellpulllaw05_few.l1,hr,hrd,wsucc (show pre.length < 4611686018427387904 by omega)]
    exact Ev.pos h0 (Ev.pos h1 (Ev.pos (by omega) (Ev.pos (by omega) (Ev.pos (by omega) (Ev.bindc (cut_f p) (Ev.pos (by omega) ih))))))
theorem few_l0:∀ (n:Nat) (t pre o:List S60),9 - pre.length=n → pre.length ≤ 9 → o.length=pre.length → Ev (fun k=>bellpulllaw05_few.l0 k (pre ++ t) o (pre.length:Int)) (o ++ (t.take n).map cutL):=by
  have stop:∀ (set o:List S60) (i:Int),Ev (fun k=>bellpulllaw05_few.j1 k set o i false) o:=fun set o i=>by
    refine Ev.succ ?_
    simp only [bellpulllaw05_few.j1]
    exact Ev.neg (by simp) (Ev.now _)
  intro n
  induction n with
  | zero =>
    intro t pre o hn hp ho
    rw [List.take_zero,List.map_nil,List.append_nil]
    refine Ev.succ ?_
    simp only [bellpulllaw05_few.l0]
    have hd:decide ((pre.length:Int) ≤ 8)=false:=decide_eq_false (by omega)
    by_cases q:(pre.length:Int) < ((pre ++ t).length:Int)
    · refine Ev.pos q ?_
      rw [hd];exact stop _ _ _
    · exact Ev.neg q (stop _ _ _)
  | succ n ih =>
    intro t pre o hn hp ho
    match t with
    | [] =>
      simp only [List.take_nil,List.map_nil,List.append_nil]
      refine Ev.succ ?_
      simp only [bellpulllaw05_few.l0]
      exact Ev.neg (by simp) (stop _ _ _)
    | l :: t =>
      have hd:decide ((pre.length:Int) ≤ 8)=true:=decide_eq_true (by omega)
      have ih:=ih t (pre ++ [l]) (o ++ [cutL l]) (by simp;omega) (by simp;omega) (by simp [ho])
      rw [← app_snoc,← len_snoc,List.append_assoc] at ih
      refine Ev.succ ?_
      simp only [bellpulllaw05_few.l0,hd]
      refine Ev.pos (lt_app _ _ _) (Ev.succ ?_)
      simp only [bellpulllaw05_few.j1,rdT60_app]
      refine Ev.pos trivial (Ev.pos (by omega) (Ev.pos (lt_app _ _ _) (Ev.bindc (cut_f l.f0) ?_)))
      refine few_l1 (pre ++ l :: t) (pre.length:Int) l (by omega) (lt_app _ _ _) (rdT60_app _ _ _) o (by omega) _ _ 5 l.f1 [] [] rfl rfl rfl (by simp) ?_
      rw [wsucc (by omega),List.nil_append]
      have ho:o ++ [({ f0:=l.f0.take 4,f1:=(l.f1.take 5).map (·.take 4) }:S60)]=o ++ [cutL l]:=rfl
      rw [ho]
      exact ih
def fewL (set:List S60):List S60:=(set.take 9).map cutL
theorem few_ev (set:List S60):Ev (fun k=>bellpulllaw05_few.f k set) (fewL set):=few_l0 9 set [] [] rfl (by simp) rfl
theorem few_short (set:List S60):shortS (fewL set):=by
  unfold fewL
  refine ⟨by unfold short;simp;omega,fun l hl=>?_⟩
  obtain ⟨x,_,rfl⟩:=List.mem_map.1 hl
  refine ⟨by unfold short cutL;simp;omega,by unfold short cutL;simp;omega,fun p hp=>?_⟩
  obtain ⟨y,_,rfl⟩:=List.mem_map.1 hp
  unfold short;simp;omega
theorem check1 (d:Int) {s:List S60} (h:shortS s):Ev (fun k=>count_check.f k d [s]) (chk d [s]):=check_ev d [s] (by unfold short;simp) (fun t ht=>by
  obtain rfl:t=s:=by simpa using ht
  exact ⟨h.1,fun l hl=>(h.2 l hl).2.1.tail⟩)
end Go.Proofs.Ytkonljiembcdlaa.Pure
namespace Go.Proofs.Ytkonljiembcdlaa.PC
open Go.Proofs.MyWords Go.RowKit Go.Proofs.YtkonljiembcdlaaW.PrintWords Go.Proofs.YtkonljiembcdlaaW.PrintLast Go.Proofs.YtkonljiembcdlaaW.PrintMore
attribute [local go_sem] max2_int min2_int max_two min_two max_three min_three max_four min_four   -- for this text's walks alone
set_option linter.unusedVariables false
set_option linter.unusedSimpArgs false
attribute [local go_sem] eqGuard_slices eqlnil23 neqnil23 eqlnil58 neqnil58
end Go.Proofs.Ytkonljiembcdlaa.PC
/- All vectors of a sum, as the reference lists them, in plain Lean. -/
set_option linter.unusedVariables false
set_option linter.unusedSimpArgs false
namespace Go.Proofs.Ytkonljiembcdlaa.Pure
open Go.RowKit Go.Proofs.MyWords Go.Proofs.YtkonljiembcdlaaW.PrintWords Go.Proofs.YtkonljiembcdlaaW.PrintLast Go.Proofs.YtkonljiembcdlaaW.PrintMore Go.Proofs.Ytkonljiembcdlaa.PC Go.Proofs.Ytkonljiembcdlaa.Sem
end Go.Proofs.Ytkonljiembcdlaa.Pure
/- The document's examples. -/
set_option linter.unusedVariables false
namespace Go.Proofs.Ytkonljiembcdlaa.Pure
open Go.RowKit Go.Proofs.YtkonljiembcdlaaW.PrintWords Go.Proofs.Ytkonljiembcdlaa.PC
theorem lives_ev:Ev (fun k=>bellpulllaw05_lives.f k) true :=
  Ev.of (fun k=>bellpulllaw05_lives.mono k) (k:=60) (by kernel_rfl)
end Go.Proofs.Ytkonljiembcdlaa.Pure
/- count.Differ in plain Lean. -/
set_option linter.unusedVariables false
set_option linter.unusedSimpArgs false
namespace Go.Proofs.Ytkonljiembcdlaa.Pure
open Go.RowKit Go.Proofs.MyWords Go.Proofs.YtkonljiembcdlaaW.PrintWords Go.Proofs.YtkonljiembcdlaaW.PrintLast Go.Proofs.YtkonljiembcdlaaW.PrintMore Go.Proofs.Ytkonljiembcdlaa.PC Go.Proofs.Ytkonljiembcdlaa.Sem
theorem before_go:∀ (s t v w:List Int),v.length=w.length → (v ++ s).length < 1000000 → Ev (fun k=>bellpullref01_Before.l0 k (v ++ s) (w ++ t) (v.length:Int)) (decide (cmpL s t < 0))
  | [],[],v,w,hl,h1=>by
    refine Ev.succ ?_
    simp only [bellpullref01_Before.l0]
    refine Ev.neg (by simp) (Ev.succ ?_)
    simp only [bellpullref01_Before.j1]
    refine Ev.neg (by simp) (Ev.const ?_)
    simp [cmpL,hl]
  | [],b :: t,v,w,hl,h1=>by
    refine Ev.succ ?_
    simp only [bellpullref01_Before.l0]
    refine Ev.neg (by simp) (Ev.succ ?_)
    simp only [bellpullref01_Before.j1]
    refine Ev.neg (by simp) (Ev.const ?_)
    simp [cmpL,hl]
    omega
  | a :: s,[],v,w,hl,h1=>by
    have e:decide ((v.length:Int) < ((w ++ []).length:Int))=false:=decide_eq_false (by simp;omega)
    refine Ev.succ ?_
    simp only [bellpullref01_Before.l0,e]
    refine Ev.pos (by simp;omega) (Ev.succ ?_)
    simp only [bellpullref01_Before.j1]
    refine Ev.neg (by simp) (Ev.const ?_)
    simp [cmpL,hl]
    omega
  | a :: s,b :: t,v,w,hl,h1=>by
    have hv:v.length < 1000000:=by simp at h1;omega
    have e:decide ((v.length:Int) < ((w ++ b :: t).length:Int))=true:=decide_eq_true (by simp;omega)
    have e2:rd (w ++ b :: t) (v.length:Int)=b:=by rw [hl];exact rd_app _ _ _
    have ih:=before_go s t (v ++ [a]) (w ++ [b]) (by simp;omega) (by simpa using h1)
    rw [← app_snoc,← app_snoc,← len_snoc] at ih
    refine Ev.succ ?_
    simp only [bellpullref01_Before.l0,e]
    refine Ev.pos (by simp;omega) (Ev.succ ?_)
    simp only [bellpullref01_Before.j1,rd_app,e2,wsucc (show v.length < 4611686018427387904 by omega)]
    refine Ev.pos trivial (Ev.pos (by omega) (Ev.pos (by simp;omega) (Ev.pos (by simp;omega) ?_)))
    by_cases c:a=b
    · subst c
      have:cmpL (a :: s) (a :: t)=cmpL s t:=by simp [cmpL]
      rw [this]
      exact Ev.pos rfl ih
    · refine Ev.neg c (Ev.const ?_)
      by_cases c1:a < b
      · simp [cmpL,c1]
      · have c2:a > b:=by omega
        simp [cmpL,c1,c2]
theorem before_ev {s t:List Int} (h1:s.length < 1000000):Ev (fun k=>bellpullref01_Before.f k s t) (decide (cmpL s t < 0)):=before_go s t [] [] rfl h1
theorem cmp_self:∀ s:List Int,cmpL s s=0
  | []=>rfl
  | a :: s=>by simp [cmpL,cmp_self s]
theorem same_ev {s:List Int} (h:s.length < 1000000):Ev (fun k=>bellpullref01_Same.f k s s) true:=by
  have b:=before_ev (s:=s) (t:=s) h
  rw [cmp_self] at b
  unfold bellpullref01_Same.f
  exact Ev.bind b (Ev.neg (by simp) (Ev.bind b (Ev.now _)))
section
variable {d:Nat} {x y:List S60}
end
end Go.Proofs.Ytkonljiembcdlaa.Pure
/- CountSums: for every input the law returns true. -/
set_option linter.unusedVariables false
set_option linter.unusedSimpArgs false
namespace Go.Proofs.Ytkonljiembcdlaa.Pure
open Go.RowKit Go.Proofs.MyWords Go.Proofs.YtkonljiembcdlaaW.PrintWords Go.Proofs.YtkonljiembcdlaaW.PrintLast Go.Proofs.YtkonljiembcdlaaW.PrintMore Go.Proofs.Ytkonljiembcdlaa.PC Go.Proofs.Ytkonljiembcdlaa.Sem
theorem rstar_inn {d:Nat} (hd:d ≤ 3) (c:Nat):∀ (t:List S60) (i:Nat) (b:List Int) (ps:List (List Int)),(∀ a,a ∈ t → okV d 20 a.f0∧a.f1.length ≤ 4) → t.length ≤ 8 → okV d (20 * (i:Int)) b → i + t.length ≤ 8 → ps.length ≤ 5 * i → Ev (fun k=>refStar.inn k c t i ⟨b,ps⟩) ⟨addV b (sumB d (pickN (c / 2 ^ i) t)),ps ++ (pickN (c / 2 ^ i) t).flatMap fun a=>a.f0 :: a.f1⟩
  | [],i,b,ps,h,hl,hb,hi,hp=>by
    rw [pickN,sumB,addV_zero hb.1,List.flatMap_nil,List.append_nil]
    exact Ev.now _
  | a :: t,i,b,ps,h,hl,hb,hi,hp=>by
    rw [List.length_cons] at hl hi
    have ha:=h a (by simp)
    have e2:c / 2 ^ (i + 1)=c / 2 ^ i / 2:=by rw [Nat.pow_succ,Nat.div_div_eq_div_mul]
    have ih:=fun b ps=>rstar_inn hd c t (i + 1) b ps (fun x hx=>h x (by simp [hx])) (by omega)
    rw [e2] at ih
    simp only [refStar.inn]
    rw [pickN]
    by_cases hbit:c / 2 ^ i % 2=1
    · rw [if_pos hbit,sumB,← addV_assoc,List.flatMap_cons,← List.append_assoc]
      have l5:(a.f0 :: a.f1).length ≤ 5:=by rw [List.length_cons];omega
      refine Ev.pos hbit (Ev.bind (rplus_ev hd (hb.mono (by omega)) (ha.1.mono (by decide))) (Ev.pos ⟨by show ps.length ≤ 100000;omega,by omega⟩ ?_))
      refine ih _ _ ⟨addV_len hb.1 ha.1.1,fun z hz=>?_⟩ (by omega) (by rw [List.length_append];omega)
      have:=inB_addV hb.2 ha.1.2 z hz
      push_cast
      omega
    · rw [if_neg hbit]
      exact Ev.neg hbit (ih b ps (hb.mono (by push_cast;omega)) (by omega) (by omega))
def rstarL (d:Nat) (x:List S60):List S60:=(List.range (refStar.m x)).map fun c=>starOf d (pickN c x)
theorem okV_zero (d:Nat) (m:Int) (hm:0 ≤ m):okV d m (List.replicate d 0):=⟨by simp,fun z hz=>by rw [List.eq_of_mem_replicate hz];omega⟩
theorem rstar_out {d:Nat} (hd:d ≤ 3) {x:List S60} (hx:okSet d x):∀ (n c:Nat),Ev (fun k=>refStar.out k (d:Int) x n c) ((List.range' c n).map fun c=>starOf d (pickN c x))
  | 0,c=>Ev.now _
  | n + 1,c=>by
    have h:=rstar_inn hd c x 0 (List.replicate d 0) [] (fun a ha=>⟨(hx.2 a ha).1,(hx.2 a ha).2.1⟩) hx.1 (okV_zero d _ (by decide)) (by have:=hx.1;omega) (by simp)
    rw [Nat.pow_zero,Nat.div_one,List.nil_append] at h
    have e:addV (List.replicate d 0) (sumB d (pickN c x))=sumB d (pickN c x):=zero_addV (sumB_len (fun a ha=>(hx.mid a ((pick_sub x c).subset ha)).okL)).1
    rw [e] at h
    simp only [refStar.out,Int.toNat_natCast,List.range'_succ,List.map_cons]
    exact Ev.bind h (Ev.bind (rstar_out hd hx n (c + 1)) (Ev.now _))
theorem rstar_ev {d:Nat} (hd:d ≤ 3) {x:List S60} (hx:okSet d x):Ev (fun k=>bellpullref05_Star.f k (d:Int) x) (rstarL d x):=by
  have hm:=refStar.m_le x
  have h:=rstar_out hd hx (refStar.m x - 1) 1
  unfold bellpullref05_Star.f
  have e:rstarL d x=(⟨List.replicate ((d:Int)).toNat 0,[]⟩:S60) :: (List.range' 1 (refStar.m x - 1)).map fun c=>starOf d (pickN c x):=by
    unfold rstarL
    obtain ⟨m,h⟩:∃ m,refStar.m x=m + 1:=⟨refStar.m x - 1,by omega⟩
    rw [h,List.range_eq_range',List.range'_succ,List.map_cons,Int.toNat_natCast,pick_zero]
    rfl
  rw [e]
  exact Ev.pos ⟨by omega,by omega,by have:=hx.1;omega⟩ (Ev.bind h (Ev.now _))
theorem star_len (d:Nat) (x:List S60):(starL d x).length=2 ^ x.length:=by unfold starL;simp
theorem rstar_len (d:Nat) (x:List S60):(rstarL d x).length=refStar.m x:=by unfold rstarL;simp
theorem rstar_short {d:Nat} {x:List S60} (h:x.length ≤ 4):rstarL d x=starL d x:=by
  unfold rstarL starL refStar.m
  rw [Nat.min_eq_left h]
theorem rstar_mid {d:Nat} {x:List S60} (hx:okSet d x):(rstarL d x).length ≤ 16∧∀ l,l ∈ rstarL d x → midL d l:=by
  refine ⟨by rw [rstar_len];exact (refStar.m_le x).2,fun l hl=>(star_mid hx).2 l ?_⟩
  unfold rstarL at hl
  obtain ⟨c,hc,rfl⟩:=List.mem_map.1 hl
  refine List.mem_map.2 ⟨c,List.mem_range.2 (Nat.lt_of_lt_of_le (List.mem_range.1 hc) ?_),rfl⟩
  exact Nat.pow_le_pow_right (by decide) (Nat.min_le_left _ _)
theorem chk_long {d:Nat} {s:List S60} (h:8 < s.length):chk (d:Int) [s] ≠ 0:=fun h0=>by
  have:=((chk_ok.1 h0).2 s (by simp)).1
  omega
theorem rd_L1_app (pre:List (List Int)) (p:List Int) (t:List (List Int)):rd_L1 (pre ++ p :: t) (pre.length:Int)=p:=by simp [rd_L1]
theorem rd_T60_app (pre:List S60) (p:S60) (t:List S60):rd_T60 (pre ++ p :: t) (pre.length:Int)=p:=by simp [rd_T60]
theorem sameLists_l0:∀ (t pre:List (List Int)),(pre ++ t).length < 1000000 → (∀ p,p ∈ t → p.length < 1000000) → Ev (fun k=>bellpullref01_SameLists.l0 k (pre ++ t) (pre ++ t) (pre.length:Int)) true
  | [],pre,h,hp=>by
    refine Ev.succ ?_
    simp only [bellpullref01_SameLists.l0]
    exact Ev.neg (by simp) (Ev.now _)
  | p :: t,pre,h,hp=>by
    have ih:=sameLists_l0 t (pre ++ [p]) (by simpa using h) (fun q hq=>hp q (by simp [hq]))
    rw [List.append_assoc,List.singleton_append] at ih
    have hl:pre.length < 1000000:=by simp at h;omega
    refine Ev.succ ?_
    simp only [bellpullref01_SameLists.l0,rd_L1_app]
    refine Ev.pos (by simp <;> omega) (Ev.pos (by omega) (Ev.pos (by simp <;> omega) (Ev.bind (same_ev (hp p (by simp))) (Ev.pos rfl ?_))))
    rw [wrap_id (x:=(pre.length:Int) + 1) (by omega) (by omega)]
    have e3:((pre ++ [p]).length:Int)=(pre.length:Int) + 1:=by simp
    rw [e3] at ih
    exact ih
theorem sameLists_ev {l:List (List Int)} (h:l.length < 1000000) (hp:∀ p,p ∈ l → p.length < 1000000):Ev (fun k=>bellpullref01_SameLists.f k l l) true:=by
  unfold bellpullref01_SameLists.f
  exact Ev.pos rfl (sameLists_l0 l [] h hp)
theorem same_l0 {d:Nat} (hd:d ≤ 3):∀ (t pre:List S60),(pre ++ t).length < 1000000 → (∀ p,p ∈ t → midL d p) → Ev (fun k=>bellpullref05_Same.l0 k (pre ++ t) (pre ++ t) (pre.length:Int)) true
  | [],pre,h,hp=>by
    refine Ev.succ ?_
    simp only [bellpullref05_Same.l0]
    exact Ev.neg (by simp) (Ev.now _)
  | p :: t,pre,h,hp=>by
    have ih:=same_l0 hd t (pre ++ [p]) (by simpa using h) (fun q hq=>hp q (by simp [hq]))
    rw [List.append_assoc,List.singleton_append] at ih
    have hl:pre.length < 1000000:=by simp at h;omega
    have hm:=hp p (by simp)
    have hv:=vectors_f p (by unfold short;have:=hm.2.1;omega)
    refine Ev.succ ?_
    simp only [bellpullref05_Same.l0,rd_T60_app]
    refine Ev.pos (by simp <;> omega) (Ev.pos (by omega) (Ev.bindc hv (Ev.pos (by simp <;> omega) (Ev.bindc hv (Ev.bind (sameLists_ev (by rw [List.length_cons];have:=hm.2.1;omega) (fun q hq=>?_)) (Ev.pos rfl ?_))))))
    · rcases List.mem_cons.1 hq with rfl|hq
      · have:=hm.1.1;omega
      · have:=(hm.2.2 q hq).1;omega
    rw [wrap_id (x:=(pre.length:Int) + 1) (by omega) (by omega)]
    have e3:((pre ++ [p]).length:Int)=(pre.length:Int) + 1:=by simp
    rw [e3] at ih
    exact ih
theorem same_set {d:Nat} (hd:d ≤ 3) {l:List S60} (h:l.length < 1000000) (hp:∀ p,p ∈ l → midL d p):Ev (fun k=>bellpullref05_Same.f k l l) true:=by
  unfold bellpullref05_Same.f
  exact Ev.pos rfl (same_l0 hd l [] h hp)
theorem checkT_ev {d:Nat} (hd:d ≤ 3) {s:List S60} (h1:s.length < 1000000) (h2:∀ l,l ∈ s → midL d l):Ev (fun k=>count_check.f k (d:Int) [s]) (chk (d:Int) [s]) :=
  check_ev _ _ (by unfold short;simp) (fun t ht=>by
    obtain rfl:t=s:=by simpa using ht
    exact ⟨by unfold short;omega,fun l hl=>by have:=(h2 l hl).2.1;unfold short;omega⟩)
theorem full_any {d:Nat} (hd:d ≤ 3) {s:List S60} (h1:s.length < 1000000) (h2:∀ l,l ∈ s → midL d l):Ev (fun k=>count_full.f k (d:Int) s) (if chk (d:Int) [s]=0 then (s,0) else ([],7)):=by
  have:=checkT_ev (d:=d) hd h1 h2
  unfold count_full.f
  by_cases h:chk (d:Int) [s]=0
  · rw [if_pos h]
    exact Ev.bind this (Ev.pos h (Ev.now _))
  · rw [if_neg h]
    exact Ev.bind this (Ev.neg h (Ev.now _))
theorem refCheckS {d:Nat} (hd:d ≤ 3) {s:List S60} (h1:s.length < 1000000) (h2:∀ l,l ∈ s → midL d l):Ev (fun k=>bellpullref05_Check.f k (d:Int) [s]) (chk (d:Int) [s]) :=
  refCheck_ev _ _ (by unfold short;simp) (fun t ht=>by
    obtain rfl:t=s:=by simpa using ht
    exact ⟨by unfold short;omega,fun l hl=>by
      have h:=h2 l hl
      refine ⟨by unfold short;have:=h.1.1;omega,by unfold short;rw [List.length_cons];have:=h.2.1;omega,fun p hp=>by unfold short;have:=(h.2.2 p hp).1;omega⟩⟩)
theorem part_ev {d:Nat} (hd:d ≤ 3) {s t:List S60} {g:Nat → Option (List S60)} (hs:s.length < 1000000) (ms:∀ l,l ∈ s → midL d l) (ht:t.length < 1000000) (mt:∀ l,l ∈ t → midL d l) (hg:Ev g t) (hst:s=t ∨ chk (d:Int) [s] ≠ 0∧chk (d:Int) [t] ≠ 0) :
    ∃ (a p:List S60) (e:Int),Ev (fun k=>count_full.f k (d:Int) s) (a,e)∧Ev (fun k=>sums_ref k (d:Int) 0 (g k)) (p,e)∧Ev (fun k=>if e=0 then bellpullref05_Same.f k a p else some (decide (a=[]))) true:=by
  have hf:=full_any hd hs ms
  have hr:Ev (fun k=>sums_ref k (d:Int) 0 (g k)) (t,if chk (d:Int) [t]=0 then 0 else 7):=by
    unfold sums_ref
    exact Ev.pos rfl (Ev.bind hg (Ev.bind (refCheckS hd ht mt) (Ev.now _)))
  by_cases h0:chk (d:Int) [s]=0
  · have e:s=t:=hst.elim id (fun h=>absurd h0 h.1)
    subst e
    rw [if_pos h0] at hf hr
    exact ⟨s,s,0,hf,hr,Ev.pos rfl (same_set hd hs ms)⟩
  · have h1:chk (d:Int) [t] ≠ 0:=hst.elim (fun h=>h ▸ h0) (fun h=>h.2)
    rw [if_neg h0] at hf
    rw [if_neg h1] at hr
    exact ⟨[],t,7,hf,hr,Ev.neg (by decide) (Ev.now _)⟩
theorem bad_part {d b:Int} (hb:b ≠ 0) {g:Nat → Option (List S60)}:Ev (fun k=>sums_ref k d b (g k)) ([],b)∧Ev (fun k=>if b=0 then bellpullref05_Same.f k [] [] else some (decide (([]:List S60)=[]))) true :=
  ⟨by unfold sums_ref;exact Ev.neg hb (Ev.now _),Ev.neg hb (Ev.now _)⟩
theorem CountSums:∀ (a0_0 a0_1:Int) (l0_2 l0_3:List PC.S60) (l0_4:List Int),(Lit.int .i64 a0_0).wf=true → (Lit.int .i64 a0_1).wf=true → ∃ k,bellpulllaw05_CountSums.f k a0_0 a0_1 l0_2 l0_3 l0_4=some true:=by
  intro d n x y v _ _
  refine Ev.rounds (g:=fun k=>bellpulllaw05_CountSums.f k d n x y v) ?_
  obtain ⟨X,hX⟩:∃ X,X=fewL x:=⟨_,rfl⟩
  obtain ⟨Y,hY⟩:∃ Y,Y=fewL y:=⟨_,rfl⟩
  have fx:=few_ev x
  have fy:=few_ev y
  have sx:=few_short x
  have sy:=few_short y
  rw [← hX] at fx sx
  rw [← hY] at fy sy
  have hp2:∀ s,s ∈ [X,Y] → shortS s:=fun s hs=>by
    rcases List.mem_cons.1 hs with rfl|hs
    · exact sx
    · obtain rfl:=List.mem_singleton.1 hs;exact sy
  have hp1:∀ s,s ∈ [X] → shortS s:=fun s hs=>by obtain rfl:=List.mem_singleton.1 hs;exact sx
  have c2:=refCheck_ev d [X,Y] (by unfold short;simp) hp2
  have c1:=refCheck_ev d [X] (by unfold short;simp) hp1
  have k2:=check_ev d [X,Y] (by unfold short;simp) (fun s hs=>⟨(hp2 s hs).1,fun l hl=>((hp2 s hs).2 l hl).2.1.tail⟩)
  have k1:=check1 d sx
  have A:∃ (a p:List S60) (e:Int),Ev (fun k=>count_Sum.f k d X Y) (a,e)∧Ev (fun k=>sums_ref k d (chk d [X,Y]) (bellpullref05_Sum.f k X Y)) (p,e)∧Ev (fun k=>if e=0 then bellpullref05_Same.f k a p else some (decide (a=[]))) true:=by
    by_cases h0:chk d [X,Y]=0
    · obtain ⟨hd,ho⟩:=chk_ok.1 h0
      have ox:=ho X (by simp)
      have oy:=ho Y (by simp)
      obtain ⟨m,rfl⟩:∃ m:Nat,d=m:=⟨d.toNat,by omega⟩
      rw [Int.toNat_natCast] at ox oy
      have h3:m ≤ 3:=by omega
      obtain ⟨hl,hm⟩:=sum_mid ox oy
      obtain ⟨a,p,e,h1,h2,h4⟩:=part_ev h3 (by omega) hm (by omega) hm (rsum_ev h3 ox.mid oy.mid (by have:=ox.1;omega) (by have:=oy.1;omega)) (.inl rfl)
      refine ⟨a,p,e,?_,by rw [h0];exact h2,h4⟩
      unfold count_Sum.f
      exact Ev.bind k2 (Ev.pos h0 (Ev.bind (sum_ev h3 ox.mid oy.mid (by have:=ox.1;omega) (by have:=oy.1;omega)) (Ev.bind h1 (Ev.now _))))
    · obtain ⟨h1,h2⟩:=bad_part (d:=d) h0 (g:=fun k=>bellpullref05_Sum.f k X Y)
      refine ⟨[],[],chk d [X,Y],?_,h1,h2⟩
      unfold count_Sum.f
      exact Ev.bind k2 (Ev.neg h0 (Ev.now _))
  have B:∃ (a p:List S60) (e:Int),Ev (fun k=>count_Star.f k d X) (a,e)∧Ev (fun k=>sums_ref k d (chk d [X]) (bellpullref05_Star.f k d X)) (p,e)∧Ev (fun k=>if e=0 then bellpullref05_Same.f k a p else some (decide (a=[]))) true:=by
    by_cases h0:chk d [X]=0
    · obtain ⟨hd,ho⟩:=chk_ok.1 h0
      have ox:=ho X (by simp)
      obtain ⟨m,rfl⟩:∃ m:Nat,d=m:=⟨d.toNat,by omega⟩
      rw [Int.toNat_natCast] at ox
      have h3:m ≤ 3:=by omega
      obtain ⟨hl,hm⟩:=star_mid ox
      obtain ⟨hl2,hm2⟩:=rstar_mid ox
      have hst:starL m X=rstarL m X ∨ chk (m:Int) [starL m X] ≠ 0∧chk (m:Int) [rstarL m X] ≠ 0:=by
        by_cases h4:X.length ≤ 4
        · exact .inl (rstar_short h4).symm
        · refine .inr ⟨chk_long ?_,chk_long ?_⟩
          · rw [star_len]
            exact Nat.lt_of_lt_of_le (by decide) (Nat.pow_le_pow_right (by decide) (show 5 ≤ X.length by omega))
          · rw [rstar_len]
            unfold refStar.m
            rw [Nat.min_eq_right (by omega)]
            decide
      obtain ⟨a,p,e,h1,h2,h4⟩:=part_ev h3 (by omega) hm (by omega) hm2 (rstar_ev h3 ox) hst
      refine ⟨a,p,e,?_,by rw [h0];exact h2,h4⟩
      unfold count_Star.f
      exact Ev.bind k1 (Ev.pos h0 (Ev.bind (star_ev h3 X ox) (Ev.bind h1 (Ev.now _))))
    · obtain ⟨h1,h2⟩:=bad_part (d:=d) h0 (g:=fun k=>bellpullref05_Star.f k d X)
      refine ⟨[],[],chk d [X],?_,h1,h2⟩
      unfold count_Star.f
      exact Ev.bind k1 (Ev.neg h0 (Ev.now _))
  obtain ⟨a,p,e,a1,a2,a3⟩:=A
  obtain ⟨b,q,f,b1,b2,b3⟩:=B
  unfold bellpulllaw05_CountSums.f
  exact Ev.bind fx (Ev.bind fy (Ev.bind a1 (Ev.bind b1 (Ev.bind c2 (Ev.bind c1 (Ev.bind a2 (Ev.bind b2 (Ev.bind a3 (Ev.bind b3 (Ev.pos ⟨rfl,rfl,rfl,rfl⟩ lives_ev))))))))))
end Go.Proofs.Ytkonljiembcdlaa.Pure
/- An array of three bytes, and a slice of bytes, as arguments: opened, and shut. -/
set_option linter.unusedVariables false
set_option linter.constructorNameAsVariable false
namespace Go.Proofs.Ytkonljiembcdlaa.RowT
open Go.ChangeShapes Go.WideShapes Go.ChangeAt Go.RowKit Go.Joins
section
variable {H:Type} {enc:TypeId × Value → H} {w:World} {base:Nat} {spare:Nat → Bool} {held:Bool}
end
end Go.Proofs.Ytkonljiembcdlaa.RowT
