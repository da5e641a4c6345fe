import Derived.Test.YtkonljiembcdlaaPCx0
import Derived.Test.YtkonljiembcdlaaPCx1
import Derived.Test.YtkonljiembcdlaaPCx2
import Derived.Test.YtkonljiembcdlaaPCx4
namespace Go.Proofs.Ytkonljiembcdlaa.PC
open Go.Proofs.MyWords Go.RowKit Go.Proofs.YtkonljiembcdlaaW.PrintWords Go.Proofs.YtkonljiembcdlaaW.PrintLast Go.Proofs.YtkonljiembcdlaaW.PrintMore
attribute [local go_sem] max2_int min2_int max_two min_two max_three min_three max_four min_four   -- for this text's walks alone
set_option linter.unusedVariables false
set_option linter.unusedSimpArgs false
attribute [local go_sem] eqGuard_slices eqlnil23 neqnil23 eqlnil58 neqnil58
def count_bounded.f (k:Nat) (a0:Int) (a1:Int) (l2:List (List (S60))):Option (Int):=(count_check.f k a1 l2).bind fun t262=>(if t262=3 then (some t262) else (if a0 < 0 then (some 1) else (if a0 > 20 then (some 1) else (some t262))))
theorem count_bounded.mono:∀ a0 a1 a2 k,LeO (count_bounded.f k a0 a1 a2) (count_bounded.f (k + 1) a0 a1 a2):=by
  intro a0 a1 a2 k
  unfold count_bounded.f
  with_reducible repeat' first|exact count_check.mono _ _ _|exact LeO.refl _|exact LeO.none _|refine LeO.ite ?_ ?_|refine LeO.bind ?_ (fun _=>?_)
set_option maxHeartbeats 8000000 in
set_option maxRecDepth 100000 in
theorem count_bounded.calls (k:Nat) (G:Int) (F:Int) (L:Option Addr) (M:Nat) (E:List (List (S60))) (r:Int) (w:World) (O:Kd.C (Kd.slice 60 k60) w L E.length E) (Q:E.length ≤ M) (h:count_bounded.f k G F E=some r) :
    Calls Try.prog 77 #[.int .i64 G,.int .i64 F,.slice L E.length M] w fun e w'=>e=.returned (.int .i64 r)∧Below w.heap.size w w':=by
 have I:=mk0 O;have J:=mk0 Q;clear O Q;have D:=mk0 (Below.refl w.heap.size w);have H:((count_check.f k F E).bind fun B=>(if B=3 then (some B) else (if G < 0 then (some 1) else (if G > 20 then (some 1) else (some B)))))=some r:=h;clear h;replace H:=Option.bind_eq_some_iff.mp H;obtain ⟨B,R,H⟩:=H;(try dsimp only at H);have N:=mk0 R;clear R
 by_cases c5:B=3
 ·
  rw [if_pos c5] at H;have c5b0:(B == 3)=true:=beq_iff_eq.mpr c5;have c5b1:(B != 3)=false:=bne_eq_false_iff_eq.mpr c5;clear c5;obtain rfl:=Option.some.inj H;go_enter Try.func77,Try.ntmps77;go_wp2_with (first|((with_reducible refine gate_callee (f:=51) rfl ?_);refine goesL_ (some 10) rfl rfl Try.func51 (by kernel_rfl) rfl #[.int .i64 F,.slice L E.length M] rfl (by (try simp only [m0_,m1_,m2_]);first|done|rfl|(simp only [l0_,l1_];rfl)) ?_;(with_reducible refine (count_check.calls k F _ _ E B _ ?side1 ?side2 N.1).mono ?_);(case side1=>repeat (first|exact I.1|(with_reducible refine Kd.C_alloc ?_ _)|(with_reducible refine Kd.C_drewN ?_ _)|(with_reducible refine Kd.C_drew ?_)));(case side2=>exact J.1);rintro e V ⟨rfl,hb⟩;refine ⟨_,rfl,?_⟩;replace D:=bst D hb;(try clear hb)));go_ret;exact ⟨by first|rfl|(simp [errW_none,errW_some] <;> rfl)|(simp [*,errW_none,errW_some] <;> rfl),by repeat (first|(with_reducible first|exact D.1|apply below_alloc|apply pw_below_drewN|apply below_drew1)|exact D.1)⟩
 ·
  rw [if_neg c5] at H;have c5b0:(B == 3)=false:=beq_eq_false_iff_ne.mpr c5;have c5b1:(B != 3)=true:=bne_iff_ne.mpr c5
  by_cases c7:G < 0
  ·
   rw [if_pos c7] at H;have c7b0:decide (G < 0)=true:=decide_eq_true c7;clear c7;obtain rfl:=Option.some.inj H;go_enter Try.func77,Try.ntmps77;go_wp2_with (first|((with_reducible refine gate_callee (f:=51) rfl ?_);refine goesL_ (some 10) rfl rfl Try.func51 (by kernel_rfl) rfl #[.int .i64 F,.slice L E.length M] rfl (by (try simp only [m0_,m1_,m2_]);first|done|rfl|(simp only [l0_,l1_];rfl)) ?_;(with_reducible refine (count_check.calls k F _ _ E B _ ?side1 ?side2 N.1).mono ?_);(case side1=>repeat (first|exact I.1|(with_reducible refine Kd.C_alloc ?_ _)|(with_reducible refine Kd.C_drewN ?_ _)|(with_reducible refine Kd.C_drew ?_)));(case side2=>exact J.1);rintro e X ⟨rfl,hb⟩;refine ⟨_,rfl,?_⟩;replace D:=bst D hb;(try clear hb)));go_ret;exact ⟨by first|rfl|(simp [errW_none,errW_some] <;> rfl)|(simp [*,errW_none,errW_some] <;> rfl),by repeat (first|(with_reducible first|exact D.1|apply below_alloc|apply pw_below_drewN|apply below_drew1)|exact D.1)⟩
  ·
   rw [if_neg c7] at H;have c7b0:decide (G < 0)=false:=decide_eq_false c7;clear c7
   by_cases c9:G > 20
   ·
    rw [if_pos c9] at H;have c9b0:decide (20 < G)=true:=decide_eq_true c9;clear c9;obtain rfl:=Option.some.inj H;go_enter Try.func77,Try.ntmps77;go_wp2_with (first|((with_reducible refine gate_callee (f:=51) rfl ?_);refine goesL_ (some 10) rfl rfl Try.func51 (by kernel_rfl) rfl #[.int .i64 F,.slice L E.length M] rfl (by (try simp only [m0_,m1_,m2_]);first|done|rfl|(simp only [l0_,l1_];rfl)) ?_;(with_reducible refine (count_check.calls k F _ _ E B _ ?side1 ?side2 N.1).mono ?_);(case side1=>repeat (first|exact I.1|(with_reducible refine Kd.C_alloc ?_ _)|(with_reducible refine Kd.C_drewN ?_ _)|(with_reducible refine Kd.C_drew ?_)));(case side2=>exact J.1);rintro e T ⟨rfl,hb⟩;refine ⟨_,rfl,?_⟩;replace D:=bst D hb;(try clear hb)));go_ret;exact ⟨by first|rfl|(simp [errW_none,errW_some] <;> rfl)|(simp [*,errW_none,errW_some] <;> rfl),by repeat (first|(with_reducible first|exact D.1|apply below_alloc|apply pw_below_drewN|apply below_drew1)|exact D.1)⟩
   ·
    rw [if_neg c9] at H;have c9b0:decide (20 < G)=false:=decide_eq_false c9;clear c9;obtain rfl:=Option.some.inj H;go_enter Try.func77,Try.ntmps77;go_wp2_with (first|((with_reducible refine gate_callee (f:=51) rfl ?_);refine goesL_ (some 10) rfl rfl Try.func51 (by kernel_rfl) rfl #[.int .i64 F,.slice L E.length M] rfl (by (try simp only [m0_,m1_,m2_]);first|done|rfl|(simp only [l0_,l1_];rfl)) ?_;(with_reducible refine (count_check.calls k F _ _ E B _ ?side1 ?side2 N.1).mono ?_);(case side1=>repeat (first|exact I.1|(with_reducible refine Kd.C_alloc ?_ _)|(with_reducible refine Kd.C_drewN ?_ _)|(with_reducible refine Kd.C_drew ?_)));(case side2=>exact J.1);rintro e U ⟨rfl,hb⟩;refine ⟨_,rfl,?_⟩;replace D:=bst D hb;(try clear hb)));go_ret;exact ⟨by first|rfl|(simp [errW_none,errW_some] <;> rfl)|(simp [*,errW_none,errW_some] <;> rfl),by repeat (first|(with_reducible first|exact D.1|apply below_alloc|apply pw_below_drewN|apply below_drew1)|exact D.1)⟩
theorem clip_int.calls (A0:Option Addr) (n c0:Nat) (w:World) (hc0:n ≤ c0) :
    Calls Try.prog 97 #[.slice A0 n c0] w fun e w'=>e=.returned (.slice A0 n n)∧w=w':=by
  obtain ⟨i0,hi0,_,hsz,_⟩:=info_parts info3
  have hcut:=Go.Proofs.MyWords.cut_to_m (P:=Try.prog) 23 3 .i64 .i64 Try.underlying23 hi0 A0 n c0 (n:Int) (by omega) (by omega) hc0
  simp only [Int.toNat_natCast] at hcut
  clear hi0 hsz
  go_enter Try.func97,Try.ntmps97
  go_wp2
  go_ret
  exact ⟨rfl,rfl⟩
def clipAppend.f (l:List Int) (x:Int):Option (List Int):=if l.length < 17592186044416 then some (l ++ [x]) else none
section
variable {P:Program} {ops:Array Oper} {rest:List Oper} {o:Oper} {a:Act} {Q:Exit → Act → World → Prop}
theorem clip_append_int {W:World} (hgd:o.guard=none) (s x:Operand) (t e:TypeId)
    (ho:o.op=.call { callee:=.builtin .append,args:=#[s,x],argTypes:=#[t,t] })
    (ht:P.underlying t=some (.slice e)) (hinfo:(P.info? e).map (fun i=>(i.zero,i.size,i.bytes))=some (some (.int .i64 0),1,8))
    (A:Option Addr) (l:List Int) (y:Int) (r:List Int) (hf:clipAppend.f l y=some r)
    (hs:a.eval s=.slice A l.length l.length) (hx:a.eval x=.slice (some ⟨W.heap.size,0,none⟩) 1 1)
    (hr:Kd.C (Kd.int .i64) W A l.length l)
    (h:∀ D B,Kd.R (Kd.int .i64) e B W.heap.size (fun _=>True) D r → Below W.heap.size W B → wpList P ops Q rest (a.put o.dst D) B) :
    wpList P ops Q (o :: rest) a (W.alloc (.cells #[.int .i64 y] e)):=by
  unfold clipAppend.f at hf
  split at hf
  · rename_i hlt
    obtain rfl:=Option.some.inj hf
    obtain ⟨L,hi,hzz⟩:=Option.map_eq_some_iff.1 hinfo
    simp only [Prod.mk.injEq] at hzz
    obtain ⟨G,I,J⟩:=hzz
    have F:ReadsInt W .i64 A l.length l:=Kd.reads_of_C (enc:=Value.int .i64) (d:=(0:Int)) (h1:=fun _=>rfl) hr
    refine wpList_append_grows (W.alloc (.cells #[.int .i64 y] e)) hgd s x t ho e L (.int .i64 0) 1 8 ht hi G I J rfl (by omega) A l.length l.length (nums .i64 l) hs ?_ (by simp [nums]) ?_ ⟨W.heap.size,0,none⟩ 1 1 [.int .i64 y] hx rfl
      (World.news_of_block (cs:=#[.int .i64 y]) (t:=e) (fr:=(0,0)) (heap_alloc_new W _)) (by intro u hu;simp at hu;subst hu;rfl) (by omega) (by unfold maxLen;omega) (by omega) ?_
    · intro hA
      rcases Nat.eq_zero_or_pos l.length with E|E
      · exact ⟨E,E⟩
      · obtain ⟨ad,h1,_⟩:=F.2.2 E
        rw [hA] at h1;cases h1
    · intro b hb j u hj
      have hjl:j < l.length:=by
        rcases Nat.lt_or_ge j l.length with h'|h'
        · exact h'
        · rw [List.getElem?_eq_none (by rw [nums_length];exact h')] at hj;cases hj
      obtain ⟨ad,h1,hc⟩:=F.2.2 (by omega)
      rw [hb] at h1;injection h1 with h1;subst h1
      have:=pw_cell_below (below_alloc (Below.refl W.heap.size W) (.cells #[.int .i64 y] e)) (hc j hjl)
      rw [this]
      simp [nums,List.getElem?_eq_getElem hjl] at hj
      subst hj
      simp [List.getD_eq_getElem?_getD,List.getElem?_eq_getElem hjl]
    · intro D B hown hg
      refine h D B ?_ ?_
      · refine Kd.R_of_own (enc:=Value.int .i64) (h1:=fun _=>rfl) ?_ (fun _ _=>trivial)
        have M:encs (Value.int .i64) (l ++ [y])=nums .i64 l ++ [.int .i64 y]:=by simp [encs,nums]
        rw [M,List.length_append]
        refine ⟨hown.1,hown.2.imp id (fun ⟨g,cap,cur,N,O,T⟩=>⟨g,cap,cur,N,?_,T⟩)⟩
        simp at O;omega
      · exact (below_alloc (Below.refl W.heap.size W) _).grown hg (by simp) (by intro k hk;cases hk)
  · cases hf
end
def vecs:Nat → Nat → List Int → List (List Int)
  | 0,s,pre=>[pre ++ [(s:Int)]]
  | d + 1,s,pre=>(List.range (s + 1)).flatMap fun (x:Nat)=>vecs d (s - x) (pre ++ [(x:Int)])
def visit (go:List (List Int) → Bool):List (List Int) → List (List Int) → List (List Int) × Bool
  | vs,[]=>(vs,true)
  | vs,v :: r=>if go (vs ++ [v])=true then visit go (vs ++ [v]) r else (vs ++ [v],false)
theorem visit_append (go:List (List Int) → Bool):∀ (l1 l2 vs:List (List Int)),visit go vs (l1 ++ l2)=if (visit go vs l1).2=true then visit go (visit go vs l1).1 l2 else visit go vs l1
  | [],l2,vs=>rfl
  | v :: r,l2,vs=>by
    rw [List.cons_append]
    by_cases h:go (vs ++ [v])=true
    · rw [visit,if_pos h,visit_append go r l2 _]
      rw [show visit go vs (v :: r)=visit go (vs ++ [v]) r from by rw [visit,if_pos h]]
    · rw [visit,if_neg h,show visit go vs (v :: r)=(vs ++ [v],false) from by rw [visit,if_neg h]];rfl
def visitTo (go:List (List Int) → Bool) (vs:List (List Int)) (d s:Nat) (pre:List Int) (x:Nat):List (List Int) × Bool :=
  visit go vs ((List.range x).flatMap fun (y:Nat)=>vecs d (s - y) (pre ++ [(y:Int)]))
theorem visitTo_succ (go:List (List Int) → Bool) (vs:List (List Int)) (d s:Nat) (pre:List Int) (x:Nat) (h:(visitTo go vs d s pre x).2=true) :
    visitTo go vs d s pre (x + 1)=visit go (visitTo go vs d s pre x).1 (vecs d (s - x) (pre ++ [(x:Int)])):=by
  unfold visitTo at h ⊢
  rw [List.range_succ,List.flatMap_append,visit_append,if_pos h]
  simp
theorem visitTo_stop (go:List (List Int) → Bool) (vs:List (List Int)) (d s:Nat) (pre:List Int) (x y:Nat) (hx:x ≤ y) (h:(visitTo go vs d s pre x).2=false):visitTo go vs d s pre y=visitTo go vs d s pre x:=by
  induction y with
  | zero =>
    obtain rfl:x=0:=by omega
    rfl
  | succ y ih =>
    by_cases e:x=y + 1
    · subst e;rfl
    · have:=ih (by omega)
      rw [← this] at h
      rw [← this]
      unfold visitTo at h ⊢
      rw [List.range_succ,List.flatMap_append,visit_append,if_neg (by rw [h];decide)]
theorem mem_vecs_succ {d s x:Nat} {pre v:List Int} (hx:x ≤ s) (h:v ∈ vecs d (s - x) (pre ++ [(x:Int)])):v ∈ vecs (d + 1) s pre:=by
  unfold vecs
  exact List.mem_flatMap.2 ⟨x,by rw [List.mem_range];omega,h⟩
def TellsV (g:Nat) (lb:Array Value) (gc:Nat) (I:World → List (List Int) → Prop) (go:List (List Int) → Bool) (D:List Int → Prop):Prop :=
  ∀ (W:World) (A:Option Addr) (c:Nat) (v:List Int) (vs:List (List Int)),I W vs → D v → v.length ≤ c → gc < W.heap.size → Kd.F (Kd.int .i64) W (fun k=>k ≠ gc) A v.length v →
    Calls Try.prog g (#[.slice A v.length c] ++ lb) W fun e w'=>e=.returned (.bool (go (vs ++ [v])))∧I w' (vs ++ [v])∧W.grownBy w' (some gc)
theorem grown_trans {a b c:World} {g:Nat} (h:a.grownBy b (some g)) (k:b.grownBy c (some g)):a.grownBy c (some g) :=
  ⟨k.os.trans h.os,k.tape.trans h.tape,k.output.trans h.output,Nat.le_trans h.size k.size,fun i hi hn=>(k.block i (Nat.lt_of_lt_of_le hi h.size) hn).trans (h.block i hi hn)⟩
theorem below_grown {a b:World} (g:Nat) (h:Below a.heap.size a b):a.grownBy b (some g):=⟨h.os,h.tape,h.output,h.size,fun i hi _=>h.block i hi⟩
theorem F_grown {w w':World} {g:Nat} {A:Option Addr} {xs:List Int} (h:Kd.F (Kd.int .i64) w (fun k=>k ≠ g) A xs.length xs) (hg:w.grownBy w' (some g)):Kd.F (Kd.int .i64) w' (fun k=>k ≠ g) A xs.length xs :=
  Kd.F_step h (fun k hk hlt=>hg.block k hlt (fun e=>hk (by injection e)))
set_option maxHeartbeats 2000000 in
set_option maxRecDepth 100000 in
theorem count_vectors.calls (g:Nat) (lb:Array Value) (gc:Nat) (I:World → List (List Int) → Prop) (go:List (List Int) → Bool) (D:List Int → Prop)
    (eg:∀ args w,(callFunc g args).run Try.prog w=.ok (.enter g args) w) (hT:TellsV g lb gc I go D) (hKB:∀ W W' vs,I W vs → Below W.heap.size W W' → I W' vs) :
    ∀ (d s:Nat) (pre:List Int) (A:Option Addr) (c:Nat) (vs:List (List Int)) (w:World),gc < w.heap.size → I w vs → Kd.F (Kd.int .i64) w (fun k=>k ≠ gc) A pre.length pre → pre.length ≤ c → pre.length + d ≤ 100 → s ≤ 100 → (∀ v ∈ vecs d s pre,D v) →
      Calls Try.prog 78 #[.int .i64 ((d:Int) + 1),.int .i64 (s:Int),.slice A pre.length c,.func (.func g) #[] lb] w fun e w'=>e=.returned (.bool (visit go vs (vecs d s pre)).2)∧I w' (visit go vs (vecs d s pre)).1∧w.grownBy w' (some gc)
  | 0,s,pre,A,c,vs,w,hgc,hI,hF,hc,hl,hs,hD=>by
    obtain ⟨L,hL⟩:∃ L,L=pre ++ [(s:Int)]:=⟨_,rfl⟩
    have T:clipAppend.f pre (s:Int)=some L:=by unfold clipAppend.f;rw [if_pos (by omega),hL]
    have hDL:D L:=by rw [hL];exact hD (pre ++ [(s:Int)]) (by simp [vecs])
    have HLL:=Aside0.mk hL
    clear hL
    have HA:=Aside0.mk T
    have HF:=Aside0.mk hF
    have HI:=Aside0.mk hI
    have HG:=Aside0.mk hgc
    have HT:=Aside0.mk hT
    have HK:=Aside0.mk hKB
    have HDD:=Aside0.mk hDL
    have HC:=Aside0.mk hc
    clear hF hI hgc hT hKB hD hl T hc hDL
    have X:((0:Nat):Int) + 1=1:=rfl
    rw [X]
    go_enter Try.func78,Try.ntmps78
    go_wp2_with (first
      | (go_at_call 97;(with_reducible refine (clip_int.calls A pre.length c _ HC.1).mono ?_);rintro e R ⟨rfl,rfl⟩)
      | ((with_reducible refine gate_builtin (b:=.append) (xs:=#[.tmp 14,.tmp 16]) rfl ?_);at_builtin;refine clip_append_int rfl (.tmp 14) (.tmp 16) 23 3 rfl Try.underlying23 info3 A pre (s:Int) _ HA.1 rfl rfl (Kd.F_now HF.1) ?_;intro Y R hR hb;obtain ⟨G,M,rfl,B,_⟩:=Kd.R_reads hR;have N:=Aside0.mk B;have HR:=Aside0.mk hR;have J:=Aside0.mk hb;clear hR hb B))
    have U:Kd.F (Kd.int .i64) R (fun k=>k ≠ gc) G L.length L:=Kd.F_mono (Kd.R_F (Kd.R_bound HR.1)) (fun k hk=>by have:=HG.1;omega)
    refine (HT.1 _ G M _ vs (HK.1 _ _ _ HI.1 J.1) HDD.1 N.1 (Nat.lt_of_lt_of_le HG.1 J.1.size) U).mono ?_
    rintro e Z ⟨rfl,C,E⟩
    have O:=Aside0.mk C
    have Q:=Aside0.mk (grown_trans (below_grown gc J.1) E)
    clear C E U
    go_wp2
    go_ret
    have e1:visit go vs (vecs 0 s pre)=(vs ++ [L],go (vs ++ [L])):=by
      rw [HLL.1]
      unfold vecs visit visit
      cases go (vs ++ [pre ++ [(s:Int)]]) <;> rfl
    rw [e1]
    exact ⟨rfl,O.1,Q.1⟩
  | d + 1,s,pre,A,c,vs,w,hgc,hI,hF,hc,hl,hs,hD=>by
    have IH:=Aside0.mk (count_vectors.calls g lb gc I go D eg hT hKB d)
    have HF:=Aside0.mk hF
    have HI:=Aside0.mk hI
    have HG:=Aside0.mk hgc
    have HK:=Aside0.mk hKB
    have HDD:=Aside0.mk hD
    have HC:=Aside0.mk hc
    have HL:=Aside0.mk hl
    have HS:=Aside0.mk hs
    clear hF hI hgc hT hKB hD hl hc hs
    obtain ⟨m,hm⟩:∃ m:Int,m=((d + 1:Nat):Int) + 1:=⟨_,rfl⟩
    have a9:(m == 1)=false:=beq_eq_false_iff_ne.mpr (by omega)
    have b0:wrap64 (m - 1)=(d:Int) + 1:=by have:=HL.1;unfold wrap64;omega
    rw [← hm]
    clear hm
    go_enter Try.func78,Try.ntmps78
    go_wp2
    go_loopw [9] (fun V w'=>∃ x:Nat,V=.int .i64 (x:Int)∧Aside0 (x ≤ s + 1)∧Aside0 ((visitTo go vs d s pre x).2=true)∧Aside0 (I w' (visitTo go vs d s pre x).1)∧Aside0 (w.grownBy w' (some gc))) (fun V _=>s + 1 - (intOf V).toNat)
    case atStart=>exact ⟨0,rfl,⟨by omega⟩,⟨rfl⟩,HI,⟨⟨rfl,rfl,rfl,Nat.le_refl _,fun _ _ _=>rfl⟩⟩⟩
    case round =>
      clear HI
      obtain ⟨x,rfl,HX,HV,HI,HGR⟩:=hrel
      by_cases hlt:x ≤ s
      · have a0:decide ((x:Int) ≤ (s:Int))=true:=decide_eq_true (by omega)
        have a1:decide (x ≤ s)=true:=decide_eq_true hlt
        have hws:wrap64 ((s:Int) - (x:Int))=((s - x:Nat):Int):=by have:=HS.1;unfold wrap64;omega
        have hwx:wrap64 ((x:Int) + 1)=((x + 1:Nat):Int):=by have:=HS.1;unfold wrap64;omega
        have HWX:=Aside0.mk hwx
        clear hwx
        obtain ⟨L,hL⟩:∃ L,L=pre ++ [(x:Int)]:=⟨_,rfl⟩
        have HA:=Aside0.mk (show clipAppend.f pre (x:Int)=some L from by unfold clipAppend.f;rw [if_pos (by have:=HL.1;omega),hL])
        have HLL:=Aside0.mk hL
        clear hL
        have HLT:=Aside0.mk hlt
        have HFW:=Aside0.mk (F_grown HF.1 HGR.1)
        have HSX:=Aside0.mk (visitTo_succ go vs d s pre x HV.1)
        rcases hq:visit go (visitTo go vs d s pre x).1 (vecs d (s - x) L) with ⟨vs2,b⟩
        rw [← HLL.1,hq] at HSX
        have HIH:Aside0 (∀ (G:Option Addr) (M:Nat) (W:World),w.heap.size ≤ W.heap.size → I W (visitTo go vs d s pre x).1 → Kd.F (Kd.int .i64) W (fun k=>k ≠ gc) G L.length L → L.length ≤ M →
            Calls Try.prog 78 #[.int .i64 ((d:Int) + 1),.int .i64 ((s - x:Nat):Int),.slice G L.length M,.func (.func g) #[] lb] W fun e w'=>e=.returned (.bool b)∧I w' vs2∧W.grownBy w' (some gc)):=⟨fun G M W h1 h2 h3 h4=>by
          refine (IH.1 (s - x) L G M _ W (Nat.lt_of_lt_of_le HG.1 h1) h2 h3 h4 (by rw [HLL.1,List.length_append];have:=HL.1;simp;omega) (by have:=HS.1;omega) (fun v hv=>HDD.1 v (mem_vecs_succ HLT.1 (by rw [← HLL.1];exact hv)))).mono ?_
          rintro e w' ⟨rfl,h5,h6⟩
          rw [hq] at h5
          rw [hq]
          exact ⟨rfl,h5,h6⟩⟩
        clear hlt hq
        cases b with
        | true =>
          go_wp2_with (first
            | (go_at_call 97;(with_reducible refine (clip_int.calls A pre.length c _ HC.1).mono ?_);rintro e R ⟨rfl,rfl⟩)
            | ((with_reducible refine gate_builtin (b:=.append) (xs:=#[.tmp 30,.tmp 32]) rfl ?_);at_builtin;refine clip_append_int rfl (.tmp 30) (.tmp 32) 23 3 rfl Try.underlying23 info3 A pre (x:Int) _ HA.1 rfl rfl (Kd.F_now HFW.1) ?_;intro Y R hR hb;obtain ⟨G,M,rfl,B,_⟩:=Kd.R_reads hR;have N:=Aside0.mk B;have HR:=Aside0.mk hR;have J:=Aside0.mk hb;clear hR hb B)
            | (go_at_call 78;(with_reducible refine (HIH.1 G M _ (Nat.le_trans HGR.1.size J.1.size) (HK.1 _ _ _ HI.1 J.1) (Kd.F_mono (Kd.R_F (Kd.R_bound HR.1)) (fun k hk=>by have:=HG.1;have:=HGR.1.size;omega)) N.1).mono ?_);rintro e Z ⟨rfl,C,E⟩;have O:=Aside0.mk C;have Q:=Aside0.mk (grown_trans HGR.1 (grown_trans (below_grown gc J.1) E));clear C E))
          go_roundw
          case rel=>exact ⟨x + 1,congrArg _ HWX.1,⟨by have:=HLT.1;omega⟩,⟨by rw [HSX.1]⟩,⟨by rw [HSX.1];exact O.1⟩,Q⟩
          case measure=>rw [HWX.1];simp only [intOf];have:=HLT.1;omega
        | false =>
          go_wp2_with (first
            | (go_at_call 97;(with_reducible refine (clip_int.calls A pre.length c _ HC.1).mono ?_);rintro e R ⟨rfl,rfl⟩)
            | ((with_reducible refine gate_builtin (b:=.append) (xs:=#[.tmp 30,.tmp 32]) rfl ?_);at_builtin;refine clip_append_int rfl (.tmp 30) (.tmp 32) 23 3 rfl Try.underlying23 info3 A pre (x:Int) _ HA.1 rfl rfl (Kd.F_now HFW.1) ?_;intro Y R hR hb;obtain ⟨G,M,rfl,B,_⟩:=Kd.R_reads hR;have N:=Aside0.mk B;have HR:=Aside0.mk hR;have J:=Aside0.mk hb;clear hR hb B)
            | (go_at_call 78;(with_reducible refine (HIH.1 G M _ (Nat.le_trans HGR.1.size J.1.size) (HK.1 _ _ _ HI.1 J.1) (Kd.F_mono (Kd.R_F (Kd.R_bound HR.1)) (fun k hk=>by have:=HG.1;have:=HGR.1.size;omega)) N.1).mono ?_);rintro e Z ⟨rfl,C,E⟩;have O:=Aside0.mk C;have Q:=Aside0.mk (grown_trans HGR.1 (grown_trans (below_grown gc J.1) E));clear C E))
          go_ret
          have e:visit go vs (vecs (d + 1) s pre)=(vs2,false):=by
            rw [← HSX.1,← visitTo_stop go vs d s pre (x + 1) (s + 1) (by have:=HLT.1;omega) (by rw [HSX.1])]
            unfold vecs visitTo;rfl
          rw [e]
          exact ⟨rfl,O.1,Q.1⟩
      · have a0:decide ((x:Int) ≤ (s:Int))=false:=decide_eq_false (by omega)
        have a1:decide (x ≤ s)=false:=decide_eq_false hlt
        have hx:x=s + 1:=by have:=HX.1;omega
        subst hx
        go_wp2
        go_ret
        have e:visit go vs (vecs (d + 1) s pre)=visitTo go vs d s pre (s + 1):=by unfold vecs visitTo;rfl
        rw [e,HV.1]
        exact ⟨rfl,HI.1,HGR.1⟩
-- NOT PRINTED: function 79 (count_Count_1)
def manyOf (p:List Int → Bool) (vs:List (List Int)):Int:=((vs.filter p).length:Int)
theorem manyOf_snoc (p:List Int → Bool) (vs:List (List Int)) (v:List Int):manyOf p (vs ++ [v])=manyOf p vs + if p v=true then 1 else 0:=by
  unfold manyOf
  rw [List.filter_append]
  by_cases h:p v=true <;> simp [h]
theorem wrap64_succ (x:Int):wrap64 (wrap64 x + 1)=wrap64 (x + 1):=by unfold wrap64;omega
theorem manyOf_le (p:List Int → Bool) (vs:List (List Int)):manyOf p vs ≤ vs.length:=by
  unfold manyOf
  have:=List.length_filter_le p vs
  omega
theorem visit_true (vs:List (List Int)):∀ l,visit (fun _=>true) vs l=(vs ++ l,true)
  | []=>by simp [visit]
  | v :: r=>by
    have:visit (fun _=>true) vs (v :: r)=visit (fun _=>true) (vs ++ [v]) r:=by rw [visit,if_pos rfl]
    rw [this,visit_true (vs ++ [v]) r]
    simp
def count_Count.go (k:Nat) (set:List S60):List (List Int) → Option Int
  | []=>some 0
  | v :: r=>(count_has.f k set v).bind fun b=>(count_Count.go k set r).bind fun n=>some (n + if b=true then 1 else 0)
def count_Count.f (k:Nat) (d:Int) (l1:List S60) (n:Int):Option (Int × Int):=(count_bounded.f k n d [l1]).bind fun e=>if e=0 then (if 1 ≤ d∧d ≤ 20∧0 ≤ n∧n ≤ 20 then (count_Count.go k l1 (vecs (d - 1).toNat n.toNat [])).bind fun m=>some (wrap64 m,0) else none) else some (0,e)
theorem count_Count.mono_g (k:Nat) (set:List S60):∀ l,LeO (count_Count.go k set l) (count_Count.go (k + 1) set l)
  | []=>LeO.refl _
  | v :: r=>LeO.bind (count_has.mono _ _ k) (fun _=>LeO.bind (count_Count.mono_g k set r) (fun _=>LeO.refl _))
theorem count_Count.mono:∀ a0 a1 a2 k,LeO (count_Count.f k a0 a1 a2) (count_Count.f (k + 1) a0 a1 a2):=fun a0 a1 a2 k=>by
  unfold count_Count.f
  exact LeO.bind (count_bounded.mono _ _ _ k) (fun _=>LeO.ite (LeO.ite (LeO.bind (count_Count.mono_g k _ _) (fun _=>LeO.refl _)) (LeO.refl _)) (LeO.refl _))
theorem count_Count.go_some (k:Nat) (set:List S60):∀ (l:List (List Int)) (m:Int),count_Count.go k set l=some m → (∀ v ∈ l,(count_has.f k set v).isSome=true)∧m=manyOf (fun v=>(count_has.f k set v).getD false) l
  | [],m,h=>⟨fun v hv=>by simp at hv,by obtain rfl:=Option.some.inj h;rfl⟩
  | x :: xs,m,h=>by
    obtain ⟨b,hb,h⟩:=Option.bind_eq_some_iff.mp h
    obtain ⟨c,hc,h⟩:=Option.bind_eq_some_iff.mp h
    obtain rfl:=Option.some.inj h
    obtain ⟨h1,h2⟩:=count_Count.go_some k set xs c hc
    refine ⟨fun y hy=>?_,?_⟩
    · rcases List.mem_cons.mp hy with rfl|hy
      · rw [hb];rfl
      · exact h1 y hy
    · unfold manyOf at h2 ⊢
      rw [List.filter_cons,hb,h2]
      cases b <;> simp
theorem C_one_row {w:World} {g:Nat} {A:Option Addr} {c:Nat} {l:List S60} (h:w.heap[g]?=some (.cells #[.slice A l.length c] 22 (0,0))) (hC:Kd.C k60 w A l.length l) (hc:l.length ≤ c):Kd.C (Kd.slice 60 k60) w (some ⟨g,0,none⟩) [l].length [l]:=by
  refine ⟨rfl,by simp,fun _=>⟨⟨g,0,none⟩,rfl,fun q u hq=>?_⟩⟩
  have hq0:q=0:=by
    cases q with
    | zero=>rfl
    | succ q=>simp at hq
  subst hq0
  have hu:u=l:=by simpa using hq.symm
  subst hu
  refine ⟨[.slice A u.length c],rfl,⟨A,c,rfl,hc,hC⟩,fun a b hab=>?_⟩
  have ha0:a=0:=by
    cases a with
    | zero=>rfl
    | succ a=>simp at hab
  subst ha0
  have hb:b=.slice A u.length c:=by simpa using hab.symm
  subst hb
  have e:(⟨g,0,none⟩:Addr).add (0 * (Kd.slice 60 k60).sz + 0)=⟨g,0,none⟩:=by simp [Addr.add]
  rw [e,blk_cell h]
  rfl
def CountInv (w:World) (p:List Int → Bool) (A:Option Addr) (c:Nat) (set:List S60) (gs gm:Nat) (W:World) (vs:List (List Int)):Prop :=
  Below w.heap.size w W∧W.heap[gs]?=some (.cells #[.slice A set.length c] 22 (0,0))∧W.heap[gm]?=some (.cells #[.int .i64 (wrap64 (manyOf p vs))] 3 (0,0))∧Aside0 (w.heap.size ≤ gs∧gs ≠ gm∧w.heap.size ≤ gm∧Kd.C k60 w A set.length set∧set.length ≤ c)
set_option maxHeartbeats 1000000 in
set_option maxRecDepth 100000 in
theorem count_Count.tells (k:Nat) (A:Option Addr) (c:Nat) (set:List S60) (gs gm:Nat) (w:World) :
    TellsV 79 #[.pointer (some ⟨gs,0,none⟩),.pointer (some ⟨gm,0,none⟩)] gm (CountInv w (fun v=>(count_has.f k set v).getD false) A c set gs gm) (fun _=>true) (fun v=>(count_has.f k set v).isSome=true):=fun W F G v vs hI hD hl hg hF=>by
  obtain ⟨b,hb⟩:=Option.isSome_iff_exists.mp hD
  obtain ⟨hB,hcs,hcm,hX⟩:=hI
  have hms:wrap64 (manyOf (fun v=>(count_has.f k set v).getD false) (vs ++ [v]))=if b=true then wrap64 (wrap64 (manyOf (fun v=>(count_has.f k set v).getD false) vs) + 1) else wrap64 (manyOf (fun v=>(count_has.f k set v).getD false) vs):=by
    rw [manyOf_snoc]
    simp only [hb,Option.getD_some]
    cases b
    · simp
    · simp only [if_true];exact (wrap64_succ _).symm
  have hSlt:gs < W.heap.size:=(Array.getElem?_eq_some_iff.1 hcs).1
  have HAS:=Aside0.mk (count_has.calls k A c set F G v b W (Kd.C_below hX.1.2.2.2.1 hB) hX.1.2.2.2.2 (Kd.F_now hF) hl hb)
  have E:=Aside0.mk hB
  have HCS:=Aside0.mk hcs
  have HCM:=Aside0.mk hcm
  have HMS:=Aside0.mk hms
  have HG:=Aside0.mk hg
  have L:W.cell? ⟨gs,0,none⟩=some (.slice A set.length c):=(blk_cell hcs 0).trans rfl
  clear hD hb hB hcs hcm hms hg hF hl hSlt
  generalize hm:wrap64 (manyOf (fun v=>(count_has.f k set v).getD false) vs)=m at HMS HCM
  show Calls Try.prog 79 #[.slice F v.length G,.pointer (some ⟨gs,0,none⟩),.pointer (some ⟨gm,0,none⟩)] W _
  go_enter Try.func79,Try.ntmps79
  cases b with
  | false =>
    go_wp2_with (go_at_call 53;(with_reducible refine HAS.1.mono ?_);rintro e I ⟨rfl,C⟩;have B:=Aside0.mk C;clear C)
    go_ret
    refine ⟨rfl,⟨E.1.trans (B.1.mono E.1.size),?_,?_,hX⟩,below_grown gm B.1⟩
    · exact (B.1.block gs (Array.getElem?_eq_some_iff.1 HCS.1).1).trans HCS.1
    · rw [HMS.1.trans (if_neg Bool.false_ne_true)];exact (B.1.block gm HG.1).trans HCM.1
  | true =>
    go_wp2_with (go_at_call 53;(with_reducible refine HAS.1.mono ?_);rintro e I ⟨rfl,C⟩;have B:=Aside0.mk C;clear C;have D:=Aside0.mk ((B.1.block gm HG.1).trans HCM.1);have M:=q0_ D;have N:I.frozen? ⟨gm,0,none⟩=false:=blk_frozen D.1 0)
    go_ret
    have hne:=hX.1.2.1
    have J:=E.1.trans (B.1.mono E.1.size)
    refine ⟨rfl,⟨below_set J hX.1.2.2.1,?_,?_,hX⟩,?_⟩
    · exact blk_far ((B.1.block gs (Array.getElem?_eq_some_iff.1 HCS.1).1).trans HCS.1) hne _
    · rw [HMS.1.trans (if_pos trivial)];exact blk_put D.1 0 _ rfl
    · exact grown_trans (below_grown gm B.1) ⟨rfl,rfl,rfl,by simp [World.setCell],fun i _ hi=>Below.heap_setCell _ _ _ _ (fun e=>hi (by rw [e]))⟩
theorem CountInv.start {w w1 w3:World} {A:Option Addr} {c gm:Nat} {set:List S60} (p:List Int → Bool) (hC:Kd.C k60 w A set.length set) (hc:set.length ≤ c)
    (h1:Below ((w.alloc (.cells #[.slice A set.length c] 22)).alloc (.cells #[.slice A set.length c] 22)).heap.size ((w.alloc (.cells #[.slice A set.length c] 22)).alloc (.cells #[.slice A set.length c] 22)) w1)
    (hg:gm=w1.heap.size) (h3:Below w1.heap.size w1 w3) (hb:w3.heap[gm]?=some (.cells #[.int .i64 0] 3 (0,0))):CountInv w p A c set w.heap.size gm (w3.setCell ⟨gm,0,none⟩ (.int .i64 0)) []:=by
  have hs:w.heap.size + 2 ≤ w1.heap.size:=by have:=h1.size;simpa using this
  have hB0:Below w.heap.size w ((w.alloc (.cells #[.slice A set.length c] 22)).alloc (.cells #[.slice A set.length c] 22)):=below_alloc (below_alloc (Below.refl _ _) _) _
  have hB3:Below w.heap.size w w3:=(hB0.trans (h1.mono (by simp;omega))).trans (h3.mono (by omega))
  have hgs:((w.alloc (.cells #[.slice A set.length c] 22)).alloc (.cells #[.slice A set.length c] 22)).heap[w.heap.size]?=some (.cells #[.slice A set.length c] 22 (0,0)):=(Below.heap_alloc _ _ _ (by simp)).trans (blk_new w _)
  refine ⟨below_set hB3 (by omega),blk_far (blk_below (blk_below hgs h1) h3) (by show w.heap.size ≠ gm;omega) _,?_,⟨⟨Nat.le_refl _,by omega,by omega,hC,hc⟩⟩⟩
  refine blk_put hb 0 _ ?_
  simp [manyOf,wrap64]
set_option maxHeartbeats 1000000 in
set_option maxRecDepth 100000 in
theorem count_Count.calls (k:Nat) (G:Int) (D:Option Addr) (E:Nat) (B:List S60) (I:Int) (r1 X:Int) (w:World) (L:Kd.C k60 w D B.length B) (M:B.length ≤ E) (h:count_Count.f k G B I=some (r1,X)) :
    Calls Try.prog 35 #[.int .i64 G,.slice D B.length E,.int .i64 I] w fun e w'=>e=.returned (.tuple #[.int .i64 r1,.int .i64 X])∧Below w.heap.size w w':=by
  unfold count_Count.f at h
  obtain ⟨R,T,h⟩:=Option.bind_eq_some_iff.mp h
  have HR:=Aside0.mk L
  have HC:=Aside0.mk M
  have HBD:Aside0 (Calls Try.prog 77 #[.int .i64 I,.int .i64 G,.slice (some ⟨w.heap.size + 1,0,none⟩) 1 1] ((w.alloc (.cells #[.slice D B.length E] 22)).alloc (.cells #[.slice D B.length E] 22)) fun e w'=>e=.returned (.int .i64 R)∧Below ((w.alloc (.cells #[.slice D B.length E] 22)).alloc (.cells #[.slice D B.length E] 22)).heap.size ((w.alloc (.cells #[.slice D B.length E] 22)).alloc (.cells #[.slice D B.length E] 22)) w') :=
    ⟨count_bounded.calls k I G (some ⟨w.heap.size + 1,0,none⟩) 1 [B] R _ (C_one_row (by have:=blk_new (w.alloc (.cells #[.slice D B.length E] 22)) (.cells #[.slice D B.length E] 22);simpa using this) (Kd.C_alloc (Kd.C_alloc L _) _) M) (Nat.le_refl _) T⟩
  clear L M T
  by_cases hz:R=0
  · subst hz
    rw [if_pos rfl] at h
    split at h
    case isFalse=>cases h
    rename_i hd
    obtain ⟨m,hm,h⟩:=Option.bind_eq_some_iff.mp h
    obtain ⟨rfl,rfl⟩:=Prod.mk.inj (Option.some.inj h)
    obtain ⟨hD,U⟩:=count_Count.go_some k B _ m hm
    clear h hm
    have eg:∀ args w,(callFunc 79 args).run Try.prog w=.ok (.enter 79 args) w:=enters_of Try.func79 (by kernel_rfl) rfl
    have HV:Aside0 (∀ (gs gm:Nat) (W:World),gm < W.heap.size → CountInv w (fun v=>(count_has.f k B v).getD false) D E B gs gm W [] →
        Calls Try.prog 78 #[.int .i64 G,.int .i64 I,.slice none 0 0,.func (.func 79) #[] #[.pointer (some ⟨gs,0,none⟩),.pointer (some ⟨gm,0,none⟩)]] W fun e w'=>e=.returned (.bool true)∧w'.heap[gm]?=some (.cells #[.int .i64 (wrap64 m)] 3 (0,0))∧Below w.heap.size w w'):=⟨fun gs gm W h1 h2=>by
      have hcall:=count_vectors.calls 79 #[.pointer (some ⟨gs,0,none⟩),.pointer (some ⟨gm,0,none⟩)] gm (CountInv w (fun v=>(count_has.f k B v).getD false) D E B gs gm) (fun _=>true) (fun v=>(count_has.f k B v).isSome=true) eg (count_Count.tells k D E B gs gm w)
        (fun W W' vs hI hb=>⟨hI.1.trans (hb.mono hI.1.size),blk_below hI.2.1 hb,blk_below hI.2.2.1 hb,hI.2.2.2⟩) (G - 1).toNat I.toNat [] none 0 [] W h1 h2 (Kd.F_nil _ _ _) (Nat.le_refl _) (by simp;omega) (by omega) hD
      rw [visit_true] at hcall
      have e1:(((G - 1).toNat:Nat):Int) + 1=G:=by omega
      have e2:((I.toNat:Nat):Int)=I:=by omega
      rw [e1,e2] at hcall
      refine hcall.mono ?_
      rintro e w' ⟨rfl,Y,_⟩
      refine ⟨rfl,?_,Y.1⟩
      rw [U]
      exact Y.2.2.1⟩
    clear hD U hd
    go_enter Try.func35,Try.ntmps35
    go_wp2_with (first
      | (go_at_call 77;(with_reducible refine HBD.1.mono ?_);rintro e w1 ⟨rfl,J⟩;have O:=Aside0.mk J;clear J)
      | ((with_reducible refine gate_dst (N:=9) rfl ?_);refine box_event ?hg (N:=9) ?hd (cs:=#[.int .i64 0]) (t:=3) ?hr ?_;(case hd=>rfl);(case hg=>rfl);(case hr=>first|(go_simp;done)|(go_simp;rfl));intro gm hg Z F hb;have BK:=Aside0.mk F;have b0:=Aside0.mk hb;have b1:=Aside0.mk hg;have hcz:Z.cell? ⟨gm,0,none⟩=some (.int .i64 0):=(blk_cell F 0).trans rfl;have hfz:Z.frozen? ⟨gm,0,none⟩=false:=blk_frozen F 0;have HINV:=Aside0.mk (CountInv.start (fun v=>(count_has.f k B v).getD false) HR.1 HC.1 O.1 hg hb F);clear hb F hg)
      | (go_at_call 78;(with_reducible refine (HV.1 w.heap.size gm _ ?lt ?inv).mono ?_);(case lt=>exact (blk_lt (blk_put BK.1 0 (.int .i64 0) rfl)));(case inv=>exact HINV.1);rintro e w4 ⟨rfl,Q,V⟩;have b2:=Aside0.mk Q;have a1:=Aside0.mk V;have a9:w4.cell? ⟨gm,0,none⟩=some (.int .i64 (wrap64 m)):=(blk_cell Q 0).trans rfl;clear Q V))
    go_ret2
    exact ⟨rfl,a1.1⟩
  · rw [if_neg hz] at h
    obtain ⟨rfl,rfl⟩:=Prod.mk.inj (Option.some.inj h)
    have hn:(R != 0)=true:=bne_iff_ne.mpr hz
    clear h hz
    go_enter Try.func35,Try.ntmps35
    go_wp2_with (first
      | (go_at_call 77;(with_reducible refine HBD.1.mono ?_);rintro e w1 ⟨rfl,J⟩;have O:=Aside0.mk J;clear J))
    go_ret2
    exact ⟨rfl,(below_alloc (below_alloc (Below.refl _ _) _) _).trans (O.1.mono (by simp;omega))⟩
def bellpulllaw05_lives.f (k:Nat) :Option (Bool):=(some (([(⟨(([1,0]:List Int)),(([(([1,1]:List Int))]:List (List Int)))⟩:S60)]:List (S60)):List (S60))).bind fun y272=>((count_Has.f k 2 y272 (([3,2]:List Int))).bind fun bt278=>((count_Has.f k 2 y272 (([2,2]:List Int))).bind fun bt283=>((count_Count.f k 2 y272 3).bind fun bt285=>((count_Image.f k (⟨#[97,98,46,42]⟩:ByteArray)).bind fun bt287=>((count_Accepts.f k (⟨#[97,42,98,43]⟩:ByteArray) (([0,1,0]:List Int))).bind fun bt294=>((count_Accepts.f k (⟨#[97,42,98,43]⟩:ByteArray) (([1,1,0]:List Int))).bind fun bt299=>(if bt278.1=true then (if bt278.2=0 then (if bt283.1=true then (none) else (if bt283.2=0 then (if bt285.1=1 then (if bt285.2=0 then ((bellpullref05_Same.f k bt287.1 (([(⟨(([0,0,0]:List Int)),([]:List (List Int))⟩:S60),(⟨(([1,1,0]:List Int)),(([(([1,1,0]:List Int))]:List (List Int)))⟩:S60)]:List (S60)))).bind fun t316=>(if t316=true then (if bt287.2=0 then (if bt294.1=true then (if bt294.2=0 then (if bt299.1=true then (none) else (some (bt299.2 == 0))) else (none)) else (none)) else (none)) else (none))) else (none)) else (none)) else (none))) else (none)) else (none))))))))
theorem bellpulllaw05_lives.mono:∀ k,LeO (bellpulllaw05_lives.f k ) (bellpulllaw05_lives.f (k + 1) ):=by
  intro  k
  unfold bellpulllaw05_lives.f
  with_reducible repeat' first|exact bellpullref05_Same.mono _ _ _|exact count_Accepts.mono _ _ _|exact count_Count.mono _ _ _ _|exact count_Has.mono _ _ _ _|exact count_Image.mono _ _|exact LeO.refl _|exact LeO.none _|refine LeO.ite ?_ ?_|refine LeO.bind ?_ (fun _=>?_)
set_option maxHeartbeats 8000000 in
set_option maxRecDepth 100000 in
theorem bellpulllaw05_lives.calls (k:Nat)  (r:Bool) (w:World) (h:bellpulllaw05_lives.f k =some r) :
    Calls Try.prog 22 #[] w fun e w'=>e=.returned (.bool r)∧Below w.heap.size w w':=by
 have o3:=Try.underlying60;have T:=mk0 (Below.refl w.heap.size w);have H:((some (([(⟨(([1,0]:List Int)),(([(([1,1]:List Int))]:List (List Int)))⟩:S60)]:List (S60)):List (S60))).bind fun E=>((count_Has.f k 2 E (([3,2]:List Int))).bind fun Y=>((count_Has.f k 2 E (([2,2]:List Int))).bind fun U=>((count_Count.f k 2 E 3).bind fun V=>((count_Image.f k (⟨#[97,98,46,42]⟩:ByteArray)).bind fun X=>((count_Accepts.f k (⟨#[97,42,98,43]⟩:ByteArray) (([0,1,0]:List Int))).bind fun O=>((count_Accepts.f k (⟨#[97,42,98,43]⟩:ByteArray) (([1,1,0]:List Int))).bind fun J=>(if Y.1=true then (if Y.2=0 then (if U.1=true then (none) else (if U.2=0 then (if V.1=1 then (if V.2=0 then ((bellpullref05_Same.f k X.1 (([(⟨(([0,0,0]:List Int)),([]:List (List Int))⟩:S60),(⟨(([1,1,0]:List Int)),(([(([1,1,0]:List Int))]:List (List Int)))⟩:S60)]:List (S60)))).bind fun I=>(if I=true then (if X.2=0 then (if O.1=true then (if O.2=0 then (if J.1=true then (none) else (some (J.2 == 0))) else (none)) else (none)) else (none)) else (none))) else (none)) else (none)) else (none))) else (none)) else (none)))))))))=some r:=h;clear h;obtain ⟨d4,e6⟩:∃ y_:List Int,y_=(([1,0]:List Int)):=⟨_,rfl⟩
 replace H:((some (([(⟨d4,(([(([1,1]:List Int))]:List (List Int)))⟩:S60)]:List (S60)):List (S60))).bind fun E=>((count_Has.f k 2 E (([3,2]:List Int))).bind fun Y=>((count_Has.f k 2 E (([2,2]:List Int))).bind fun U=>((count_Count.f k 2 E 3).bind fun V=>((count_Image.f k (⟨#[97,98,46,42]⟩:ByteArray)).bind fun X=>((count_Accepts.f k (⟨#[97,42,98,43]⟩:ByteArray) (([0,1,0]:List Int))).bind fun O=>((count_Accepts.f k (⟨#[97,42,98,43]⟩:ByteArray) (([1,1,0]:List Int))).bind fun J=>(if Y.1=true then (if Y.2=0 then (if U.1=true then (none) else (if U.2=0 then (if V.1=1 then (if V.2=0 then ((bellpullref05_Same.f k X.1 (([(⟨(([0,0,0]:List Int)),([]:List (List Int))⟩:S60),(⟨(([1,1,0]:List Int)),(([(([1,1,0]:List Int))]:List (List Int)))⟩:S60)]:List (S60)))).bind fun I=>(if I=true then (if X.2=0 then (if O.1=true then (if O.2=0 then (if J.1=true then (none) else (some (J.2 == 0))) else (none)) else (none)) else (none)) else (none))) else (none)) else (none)) else (none))) else (none)) else (none)))))))))=some r:=by first|(rw [e6];with_reducible exact H)|(have F:=(Option.bind_some _ _).symm.trans H;rw [e6];with_reducible exact F)|(have F:=(Option.bind_some _ _).symm.trans H;with_reducible exact F)|with_reducible exact H|(rw [e6];exact H)|exact H
 have h5:=mk0 e6;clear e6;obtain ⟨g0,e7⟩:∃ y_:List Int,y_=(([1,1]:List Int)):=⟨_,rfl⟩
 replace H:((some (([(⟨d4,(([g0]:List (List Int)))⟩:S60)]:List (S60)):List (S60))).bind fun E=>((count_Has.f k 2 E (([3,2]:List Int))).bind fun Y=>((count_Has.f k 2 E (([2,2]:List Int))).bind fun U=>((count_Count.f k 2 E 3).bind fun V=>((count_Image.f k (⟨#[97,98,46,42]⟩:ByteArray)).bind fun X=>((count_Accepts.f k (⟨#[97,42,98,43]⟩:ByteArray) (([0,1,0]:List Int))).bind fun O=>((count_Accepts.f k (⟨#[97,42,98,43]⟩:ByteArray) (([1,1,0]:List Int))).bind fun J=>(if Y.1=true then (if Y.2=0 then (if U.1=true then (none) else (if U.2=0 then (if V.1=1 then (if V.2=0 then ((bellpullref05_Same.f k X.1 (([(⟨(([0,0,0]:List Int)),([]:List (List Int))⟩:S60),(⟨(([1,1,0]:List Int)),(([(([1,1,0]:List Int))]:List (List Int)))⟩:S60)]:List (S60)))).bind fun I=>(if I=true then (if X.2=0 then (if O.1=true then (if O.2=0 then (if J.1=true then (none) else (some (J.2 == 0))) else (none)) else (none)) else (none)) else (none))) else (none)) else (none)) else (none))) else (none)) else (none)))))))))=some r:=by first|(rw [e7];with_reducible exact H)|(have F:=(Option.bind_some _ _).symm.trans H;rw [e7];with_reducible exact F)|(have F:=(Option.bind_some _ _).symm.trans H;with_reducible exact F)|with_reducible exact H|(rw [e7];exact H)|exact H
 have h6:=mk0 e7;clear e7;obtain ⟨e1,e8⟩:∃ y_:List (List Int),y_=(([g0]:List (List Int))):=⟨_,rfl⟩
 replace H:((some (([(⟨d4,e1⟩:S60)]:List (S60)):List (S60))).bind fun E=>((count_Has.f k 2 E (([3,2]:List Int))).bind fun Y=>((count_Has.f k 2 E (([2,2]:List Int))).bind fun U=>((count_Count.f k 2 E 3).bind fun V=>((count_Image.f k (⟨#[97,98,46,42]⟩:ByteArray)).bind fun X=>((count_Accepts.f k (⟨#[97,42,98,43]⟩:ByteArray) (([0,1,0]:List Int))).bind fun O=>((count_Accepts.f k (⟨#[97,42,98,43]⟩:ByteArray) (([1,1,0]:List Int))).bind fun J=>(if Y.1=true then (if Y.2=0 then (if U.1=true then (none) else (if U.2=0 then (if V.1=1 then (if V.2=0 then ((bellpullref05_Same.f k X.1 (([(⟨(([0,0,0]:List Int)),([]:List (List Int))⟩:S60),(⟨(([1,1,0]:List Int)),(([(([1,1,0]:List Int))]:List (List Int)))⟩:S60)]:List (S60)))).bind fun I=>(if I=true then (if X.2=0 then (if O.1=true then (if O.2=0 then (if J.1=true then (none) else (some (J.2 == 0))) else (none)) else (none)) else (none)) else (none))) else (none)) else (none)) else (none))) else (none)) else (none)))))))))=some r:=by first|(rw [e8];with_reducible exact H)|(have F:=(Option.bind_some _ _).symm.trans H;rw [e8];with_reducible exact F)|(have F:=(Option.bind_some _ _).symm.trans H;with_reducible exact F)|with_reducible exact H|(rw [e8];exact H)|exact H
 have h7:=mk0 e8;clear e8;obtain ⟨E,e9⟩:∃ y_:List (S60),y_=(([(⟨d4,e1⟩:S60)]:List (S60))):=⟨_,rfl⟩
 replace H:((count_Has.f k 2 E (([3,2]:List Int))).bind fun Y=>((count_Has.f k 2 E (([2,2]:List Int))).bind fun U=>((count_Count.f k 2 E 3).bind fun V=>((count_Image.f k (⟨#[97,98,46,42]⟩:ByteArray)).bind fun X=>((count_Accepts.f k (⟨#[97,42,98,43]⟩:ByteArray) (([0,1,0]:List Int))).bind fun O=>((count_Accepts.f k (⟨#[97,42,98,43]⟩:ByteArray) (([1,1,0]:List Int))).bind fun J=>(if Y.1=true then (if Y.2=0 then (if U.1=true then (none) else (if U.2=0 then (if V.1=1 then (if V.2=0 then ((bellpullref05_Same.f k X.1 (([(⟨(([0,0,0]:List Int)),([]:List (List Int))⟩:S60),(⟨(([1,1,0]:List Int)),(([(([1,1,0]:List Int))]:List (List Int)))⟩:S60)]:List (S60)))).bind fun I=>(if I=true then (if X.2=0 then (if O.1=true then (if O.2=0 then (if J.1=true then (none) else (some (J.2 == 0))) else (none)) else (none)) else (none)) else (none))) else (none)) else (none)) else (none))) else (none)) else (none))))))))=some r:=by first|(rw [e9];with_reducible exact H)|(have F:=(Option.bind_some _ _).symm.trans H;rw [e9];with_reducible exact F)|(have F:=(Option.bind_some _ _).symm.trans H;with_reducible exact F)|with_reducible exact H|(rw [e9];exact H)|exact H
 have h8:=mk0 e9;clear e9;obtain ⟨Z,f0⟩:∃ y_:List Int,y_=(([3,2]:List Int)):=⟨_,rfl⟩
 replace H:((count_Has.f k 2 E Z).bind fun Y=>((count_Has.f k 2 E (([2,2]:List Int))).bind fun U=>((count_Count.f k 2 E 3).bind fun V=>((count_Image.f k (⟨#[97,98,46,42]⟩:ByteArray)).bind fun X=>((count_Accepts.f k (⟨#[97,42,98,43]⟩:ByteArray) (([0,1,0]:List Int))).bind fun O=>((count_Accepts.f k (⟨#[97,42,98,43]⟩:ByteArray) (([1,1,0]:List Int))).bind fun J=>(if Y.1=true then (if Y.2=0 then (if U.1=true then (none) else (if U.2=0 then (if V.1=1 then (if V.2=0 then ((bellpullref05_Same.f k X.1 (([(⟨(([0,0,0]:List Int)),([]:List (List Int))⟩:S60),(⟨(([1,1,0]:List Int)),(([(([1,1,0]:List Int))]:List (List Int)))⟩:S60)]:List (S60)))).bind fun I=>(if I=true then (if X.2=0 then (if O.1=true then (if O.2=0 then (if J.1=true then (none) else (some (J.2 == 0))) else (none)) else (none)) else (none)) else (none))) else (none)) else (none)) else (none))) else (none)) else (none))))))))=some r:=by first|(rw [f0];with_reducible exact H)|(have F:=(Option.bind_some _ _).symm.trans H;rw [f0];with_reducible exact F)|(have F:=(Option.bind_some _ _).symm.trans H;with_reducible exact F)|with_reducible exact H|(rw [f0];exact H)|exact H
 have h9:=mk0 f0;clear f0;replace H:=Option.bind_eq_some_iff.mp H;obtain ⟨⟨h3,d7⟩,l7,H⟩:=H;(try dsimp only at H);have A1:=mk0 l7;clear l7;obtain ⟨a0,f1⟩:∃ y_:List Int,y_=(([2,2]:List Int)):=⟨_,rfl⟩
 replace H:((count_Has.f k 2 E a0).bind fun U=>((count_Count.f k 2 E 3).bind fun V=>((count_Image.f k (⟨#[97,98,46,42]⟩:ByteArray)).bind fun X=>((count_Accepts.f k (⟨#[97,42,98,43]⟩:ByteArray) (([0,1,0]:List Int))).bind fun O=>((count_Accepts.f k (⟨#[97,42,98,43]⟩:ByteArray) (([1,1,0]:List Int))).bind fun J=>(if h3=true then (if d7=0 then (if U.1=true then (none) else (if U.2=0 then (if V.1=1 then (if V.2=0 then ((bellpullref05_Same.f k X.1 (([(⟨(([0,0,0]:List Int)),([]:List (List Int))⟩:S60),(⟨(([1,1,0]:List Int)),(([(([1,1,0]:List Int))]:List (List Int)))⟩:S60)]:List (S60)))).bind fun I=>(if I=true then (if X.2=0 then (if O.1=true then (if O.2=0 then (if J.1=true then (none) else (some (J.2 == 0))) else (none)) else (none)) else (none)) else (none))) else (none)) else (none)) else (none))) else (none)) else (none)))))))=some r:=by first|(rw [f1];with_reducible exact H)|(have F:=(Option.bind_some _ _).symm.trans H;rw [f1];with_reducible exact F)|(have F:=(Option.bind_some _ _).symm.trans H;with_reducible exact F)|with_reducible exact H|(rw [f1];exact H)|exact H
 have i0:=mk0 f1;clear f1;replace H:=Option.bind_eq_some_iff.mp H;obtain ⟨⟨h4,d8⟩,l8,H⟩:=H;(try dsimp only at H);have A2:=mk0 l8;clear l8;replace H:=Option.bind_eq_some_iff.mp H;obtain ⟨⟨d9,e0⟩,l9,H⟩:=H;(try dsimp only at H);have A3:=mk0 l9;clear l9;replace H:=Option.bind_eq_some_iff.mp H;obtain ⟨⟨c3,b5⟩,m0,H⟩:=H;(try dsimp only at H);have A4:=mk0 m0;clear m0;obtain ⟨a5,f2⟩:∃ y_:List Int,y_=(([0,1,0]:List Int)):=⟨_,rfl⟩
 replace H:((count_Accepts.f k (⟨#[97,42,98,43]⟩:ByteArray) a5).bind fun O=>((count_Accepts.f k (⟨#[97,42,98,43]⟩:ByteArray) (([1,1,0]:List Int))).bind fun J=>(if h3=true then (if d7=0 then (if h4=true then (none) else (if d8=0 then (if d9=1 then (if e0=0 then ((bellpullref05_Same.f k c3 (([(⟨(([0,0,0]:List Int)),([]:List (List Int))⟩:S60),(⟨(([1,1,0]:List Int)),(([(([1,1,0]:List Int))]:List (List Int)))⟩:S60)]:List (S60)))).bind fun I=>(if I=true then (if b5=0 then (if O.1=true then (if O.2=0 then (if J.1=true then (none) else (some (J.2 == 0))) else (none)) else (none)) else (none)) else (none))) else (none)) else (none)) else (none))) else (none)) else (none))))=some r:=by first|(rw [f2];with_reducible exact H)|(have F:=(Option.bind_some _ _).symm.trans H;rw [f2];with_reducible exact F)|(have F:=(Option.bind_some _ _).symm.trans H;with_reducible exact F)|with_reducible exact H|(rw [f2];exact H)|exact H
 have i1:=mk0 f2;clear f2;replace H:=Option.bind_eq_some_iff.mp H;obtain ⟨⟨d1,b6⟩,m1,H⟩:=H;(try dsimp only at H);have A5:=mk0 m1;clear m1;obtain ⟨a6,f3⟩:∃ y_:List Int,y_=(([1,1,0]:List Int)):=⟨_,rfl⟩
 replace H:((count_Accepts.f k (⟨#[97,42,98,43]⟩:ByteArray) a6).bind fun J=>(if h3=true then (if d7=0 then (if h4=true then (none) else (if d8=0 then (if d9=1 then (if e0=0 then ((bellpullref05_Same.f k c3 (([(⟨(([0,0,0]:List Int)),([]:List (List Int))⟩:S60),(⟨(([1,1,0]:List Int)),(([(([1,1,0]:List Int))]:List (List Int)))⟩:S60)]:List (S60)))).bind fun I=>(if I=true then (if b5=0 then (if d1=true then (if b6=0 then (if J.1=true then (none) else (some (J.2 == 0))) else (none)) else (none)) else (none)) else (none))) else (none)) else (none)) else (none))) else (none)) else (none)))=some r:=by first|(rw [f3];with_reducible exact H)|(have F:=(Option.bind_some _ _).symm.trans H;rw [f3];with_reducible exact F)|(have F:=(Option.bind_some _ _).symm.trans H;with_reducible exact F)|with_reducible exact H|(rw [f3];exact H)|exact H
 have i2:=mk0 f3;clear f3;replace H:=Option.bind_eq_some_iff.mp H;obtain ⟨⟨d2,c4⟩,m2,H⟩:=H;(try dsimp only at H);have A6:=mk0 m2;clear m2
 by_cases c7:h3=true
 ·
  subst c7;have H1:(if d7=0 then (if h4=true then (none) else (if d8=0 then (if d9=1 then (if e0=0 then ((bellpullref05_Same.f k c3 (([(⟨(([0,0,0]:List Int)),([]:List (List Int))⟩:S60),(⟨(([1,1,0]:List Int)),(([(([1,1,0]:List Int))]:List (List Int)))⟩:S60)]:List (S60)))).bind fun I=>(if I=true then (if b5=0 then (if d1=true then (if b6=0 then (if d2=true then (none) else (some (c4 == 0))) else (none)) else (none)) else (none)) else (none))) else (none)) else (none)) else (none))) else (none))=some r:=by rw [if_pos rfl] at H;exact H
  clear H;have H:=H1;clear H1
  by_cases c8:d7=0
  ·
   rw [if_pos c8] at H;have c8b0:(d7 == 0)=true:=beq_iff_eq.mpr c8;have c8b1:(d7 != 0)=false:=bne_eq_false_iff_eq.mpr c8;clear c8
   by_cases c9:h4=true
   ·
    subst c9;have H1:(none)=some r:=by rw [if_pos rfl] at H;exact H
    clear H;have H:=H1;clear H1;exact absurd H (by simp)
   ·
    replace c9:=Bool.eq_false_iff.mpr c9;subst c9;have H1:(if d8=0 then (if d9=1 then (if e0=0 then ((bellpullref05_Same.f k c3 (([(⟨(([0,0,0]:List Int)),([]:List (List Int))⟩:S60),(⟨(([1,1,0]:List Int)),(([(([1,1,0]:List Int))]:List (List Int)))⟩:S60)]:List (S60)))).bind fun I=>(if I=true then (if b5=0 then (if d1=true then (if b6=0 then (if d2=true then (none) else (some (c4 == 0))) else (none)) else (none)) else (none)) else (none))) else (none)) else (none)) else (none))=some r:=by rw [if_neg (show ¬ (false=true) by decide)] at H;exact H
    clear H;have H:=H1;clear H1
    by_cases c10:d8=0
    ·
     rw [if_pos c10] at H;have c10b0:(d8 == 0)=true:=beq_iff_eq.mpr c10;have c10b1:(d8 != 0)=false:=bne_eq_false_iff_eq.mpr c10;clear c10
     by_cases c11:d9=1
     ·
      rw [if_pos c11] at H;have c11b0:(d9 == 1)=true:=beq_iff_eq.mpr c11;have c11b1:(d9 != 1)=false:=bne_eq_false_iff_eq.mpr c11;clear c11
      by_cases c12:e0=0
      ·
       rw [if_pos c12] at H;have c12b0:(e0 == 0)=true:=beq_iff_eq.mpr c12;have c12b1:(e0 != 0)=false:=bne_eq_false_iff_eq.mpr c12;clear c12;obtain ⟨b0,f4⟩:∃ y_:List Int,y_=(([0,0,0]:List Int)):=⟨_,rfl⟩
       replace H:((bellpullref05_Same.f k c3 (([(⟨b0,([]:List (List Int))⟩:S60),(⟨(([1,1,0]:List Int)),(([(([1,1,0]:List Int))]:List (List Int)))⟩:S60)]:List (S60)))).bind fun I=>(if I=true then (if b5=0 then (if d1=true then (if b6=0 then (if d2=true then (none) else (some (c4 == 0))) else (none)) else (none)) else (none)) else (none)))=some r:=by first|(rw [f4];with_reducible exact H)|(have F:=(Option.bind_some _ _).symm.trans H;rw [f4];with_reducible exact F)|(have F:=(Option.bind_some _ _).symm.trans H;with_reducible exact F)|with_reducible exact H|(rw [f4];exact H)|exact H
       have i3:=mk0 f4;clear f4;obtain ⟨d5,f5⟩:∃ y_:List Int,y_=(([1,1,0]:List Int)):=⟨_,rfl⟩
       replace H:((bellpullref05_Same.f k c3 (([(⟨b0,([]:List (List Int))⟩:S60),(⟨d5,(([(([1,1,0]:List Int))]:List (List Int)))⟩:S60)]:List (S60)))).bind fun I=>(if I=true then (if b5=0 then (if d1=true then (if b6=0 then (if d2=true then (none) else (some (c4 == 0))) else (none)) else (none)) else (none)) else (none)))=some r:=by first|(rw [f5];with_reducible exact H)|(have F:=(Option.bind_some _ _).symm.trans H;rw [f5];with_reducible exact F)|(have F:=(Option.bind_some _ _).symm.trans H;with_reducible exact F)|with_reducible exact H|(rw [f5];exact H)|exact H
       have i4:=mk0 f5;clear f5;obtain ⟨g1,f6⟩:∃ y_:List Int,y_=(([1,1,0]:List Int)):=⟨_,rfl⟩
       replace H:((bellpullref05_Same.f k c3 (([(⟨b0,([]:List (List Int))⟩:S60),(⟨d5,(([g1]:List (List Int)))⟩:S60)]:List (S60)))).bind fun I=>(if I=true then (if b5=0 then (if d1=true then (if b6=0 then (if d2=true then (none) else (some (c4 == 0))) else (none)) else (none)) else (none)) else (none)))=some r:=by first|(rw [f6];with_reducible exact H)|(have F:=(Option.bind_some _ _).symm.trans H;rw [f6];with_reducible exact F)|(have F:=(Option.bind_some _ _).symm.trans H;with_reducible exact F)|with_reducible exact H|(rw [f6];exact H)|exact H
       have i5:=mk0 f6;clear f6;obtain ⟨e2,f7⟩:∃ y_:List (List Int),y_=(([g1]:List (List Int))):=⟨_,rfl⟩
       replace H:((bellpullref05_Same.f k c3 (([(⟨b0,([]:List (List Int))⟩:S60),(⟨d5,e2⟩:S60)]:List (S60)))).bind fun I=>(if I=true then (if b5=0 then (if d1=true then (if b6=0 then (if d2=true then (none) else (some (c4 == 0))) else (none)) else (none)) else (none)) else (none)))=some r:=by first|(rw [f7];with_reducible exact H)|(have F:=(Option.bind_some _ _).symm.trans H;rw [f7];with_reducible exact F)|(have F:=(Option.bind_some _ _).symm.trans H;with_reducible exact F)|with_reducible exact H|(rw [f7];exact H)|exact H
       have i6:=mk0 f7;clear f7;obtain ⟨j1,f8⟩:∃ y_:List (S60),y_=(([(⟨b0,([]:List (List Int))⟩:S60),(⟨d5,e2⟩:S60)]:List (S60))):=⟨_,rfl⟩
       replace H:((bellpullref05_Same.f k c3 j1).bind fun I=>(if I=true then (if b5=0 then (if d1=true then (if b6=0 then (if d2=true then (none) else (some (c4 == 0))) else (none)) else (none)) else (none)) else (none)))=some r:=by first|(rw [f8];with_reducible exact H)|(have F:=(Option.bind_some _ _).symm.trans H;rw [f8];with_reducible exact F)|(have F:=(Option.bind_some _ _).symm.trans H;with_reducible exact F)|with_reducible exact H|(rw [f8];exact H)|exact H
       have i7:=mk0 f8;clear f8;replace H:=Option.bind_eq_some_iff.mp H;obtain ⟨I,j2,H⟩:=H;(try dsimp only at H);have n8:=mk0 j2;clear j2
       by_cases i8:I=true
       ·
        subst i8;have H1:(if b5=0 then (if d1=true then (if b6=0 then (if d2=true then (none) else (some (c4 == 0))) else (none)) else (none)) else (none))=some r:=by rw [if_pos rfl] at H;exact H
        clear H;have H:=H1;clear H1
        by_cases c15:b5=0
        ·
         rw [if_pos c15] at H;have c15b0:(b5 == 0)=true:=beq_iff_eq.mpr c15;have c15b1:(b5 != 0)=false:=bne_eq_false_iff_eq.mpr c15;clear c15
         by_cases i9:d1=true
         ·
          subst i9;have H1:(if b6=0 then (if d2=true then (none) else (some (c4 == 0))) else (none))=some r:=by rw [if_pos rfl] at H;exact H
          clear H;have H:=H1;clear H1
          by_cases c17:b6=0
          ·
           rw [if_pos c17] at H;have c17b0:(b6 == 0)=true:=beq_iff_eq.mpr c17;have c17b1:(b6 != 0)=false:=bne_eq_false_iff_eq.mpr c17;clear c17
           by_cases j0:d2=true
           ·
            subst j0;have H1:(none)=some r:=by rw [if_pos rfl] at H;exact H
            clear H;have H:=H1;clear H1;exact absurd H (by simp)
           ·
            replace j0:=Bool.eq_false_iff.mpr j0;subst j0;have H1:(some (c4 == 0))=some r:=by rw [if_neg (show ¬ (false=true) by decide)] at H;exact H
            clear H;have H:=H1;clear H1;obtain rfl:=Option.some.inj H;go_enter Try.func22,Try.ntmps22;go_wp2_with (first|((with_reducible refine gate_dst (N:=14) rfl ?_);(try (refine gate_guard (by rfl) ?_;dsimp only));refine Kd.R_lit (Kd.int .i64) _ 3 ?hg (N:=14) ?hd (xs:=([1,0]:List Int)) (inner:=[.int .i64 1,.int .i64 0]) (ok:=fun _=>True) (okp:=fun _=>True) ?hr ?hp (fun _ hk=>hk) trivial (Below.refl _ _) (Nat.le_refl _) (by simp) ?_;(case hd=>rfl);(case hg=>rfl);(case hr=>first|(go_simp;done)|(go_simp;rfl));(case hp=>exact (Reps.one (show Kd.M (Kd.int .i64) _ _ _ 1 [.int .i64 1] from rfl) (Reps.one (show Kd.M (Kd.int .i64) _ _ _ 0 [.int .i64 0] from rfl) (Reps.none _ _))));intro g8 q6 g9 hb hg_ L;clear hg_ L;(first|rw [← h5.1] at g9|(simp only [Int.reduceToNat] at g9;rw [← h5.1] at g9));have b9:=mk0 (Kd.R_lower g9 (below_size T.1));replace T:=bst T hb;clear hb g9)|((with_reducible refine gate_dst (N:=15) rfl ?_);(try (refine gate_guard (by rfl) ?_;dsimp only));refine Kd.R_lit (Kd.int .i64) _ 3 ?hg (N:=15) ?hd (xs:=([1,1]:List Int)) (inner:=[.int .i64 1,.int .i64 1]) (ok:=fun _=>True) (okp:=fun _=>True) ?hr ?hp (fun _ hk=>hk) trivial (Below.refl _ _) (Nat.le_refl _) (by simp) ?_;(case hd=>rfl);(case hg=>rfl);(case hr=>first|(go_simp;done)|(go_simp;rfl));(case hp=>exact (Reps.one (show Kd.M (Kd.int .i64) _ _ _ 1 [.int .i64 1] from rfl) (Reps.one (show Kd.M (Kd.int .i64) _ _ _ 1 [.int .i64 1] from rfl) (Reps.none _ _))));intro p0 n9 g2 hb hg_ L;clear hg_ L;(first|rw [← h6.1] at g2|(simp only [Int.reduceToNat] at g2;rw [← h6.1] at g2));have g4:=mk0 (Kd.R_lower (Kd.R_new' g2 (Kd.R_lt b9.1)) (below_size T.1));replace b9:=mk0 (Kd.R_elder' b9.1 (Kd.R_base g2) hb);replace T:=bst T hb;clear hb g2;obtain ⟨j3,j4,m4⟩:=Kd.R_slice g4.1;subst m4)|((with_reducible refine gate_dst (N:=16) rfl ?_);(try (refine gate_guard (by rfl) ?_;dsimp only));refine Kd.N_lit (Kd.slice 3 (Kd.int .i64)) _ 23 ?hg (N':=16) ?hd (xs:=([g0]:List (List Int))) (inner:=[.slice j3 g0.length j4]) (ok:=(fun k_=>some k_ ≠ (g8:Value).ownBlock)) (okp:=(fun k_=>some k_ ≠ (g8:Value).ownBlock)) ?hr ?hp (fun _ hk=>hk) ((show ∀ k_,n9.heap.size ≤ k_ → (fun k_=>some k_ ≠ (g8:Value).ownBlock) k_ from fun k_ hk=>Kd.fresh' (Kd.R_lt b9.1) k_ hk) _ (Nat.le_refl _)) (Below.refl _ _) (Nat.le_refl _) (by simp) ?_;(case hd=>rfl);(case hg=>rfl);(case hr=>first|(go_simp;done)|(go_simp;rfl));(case hp=>exact (Reps.one (show Kd.FK (Kd.slice 3 (Kd.int .i64)) _ _ g0 [.slice j3 g0.length j4] from (Kd.FK_slice_mk (Kd.R_reads' (Kd.R_mono (ok':=(fun k_=>some k_ ≠ (g8:Value).ownBlock)) (g4.1) (fun k_ hk=>hk.2))).2.1 (Kd.R_F (Kd.R_mono (ok':=(fun k_=>some k_ ≠ (g8:Value).ownBlock)) (g4.1) (fun k_ hk=>hk.2))))) (Reps.none _ _)));intro p1 o0 h0 hb hg_ L;clear hg_ L;(first|rw [← h7.1] at h0|(simp only [Int.reduceToNat] at h0;rw [← h7.1] at h0));have g5:=mk0 (Kd.N_lower h0 (below_size T.1));replace b9:=rbl b9 hb;replace T:=bst T hb;clear g4;clear hb h0;obtain ⟨j5,j6,m5⟩:=Kd.N_slice g5.1;subst m5;obtain ⟨j7,j8,m6⟩:=Kd.R_slice b9.1;subst m6)|((with_reducible refine gate_dst (N:=18) rfl ?_);(try (refine gate_guard (by rfl) ?_;dsimp only));refine Kd.N_lit k60 _ 60 ?hg (N':=18) ?hd (xs:=([(⟨d4,e1⟩:S60)]:List (S60))) (inner:=[.slice j7 d4.length j8,.slice j5 e1.length j6]) (ok:=(fun _=>True)) (okp:=(fun _=>True)) ?hr ?hp (fun _ hk=>hk) ((show ∀ k_,o0.heap.size ≤ k_ → (fun _=>True) k_ from fun k_ hk=>trivial) _ (Nat.le_refl _)) (Below.refl _ _) (Nat.le_refl _) (by simp) ?_;(case hd=>rfl);(case hg=>rfl);(case hr=>first|(go_simp;done)|(go_simp;rfl));(case hp=>exact (Reps.c2 (show Kd.FK k60 _ _ (⟨d4,e1⟩:S60) [.slice j7 d4.length j8,.slice j5 e1.length j6] from (k60_mkF _ _ (⟨d4,e1⟩:S60) (Kd.R_reads' (Kd.R_mono (ok':=(fun _=>True)) (b9.1) (fun k_ hk=>trivial))).2.1 (Kd.R_F (Kd.R_mono (ok':=(fun _=>True)) (b9.1) (fun k_ hk=>trivial))) (Kd.N_reads' (Kd.N_mono (ok':=(fun _=>True)) (g5.1) (fun k_ hk=>trivial))).2.1 (Kd.N_F (Kd.N_mono (ok':=(fun _=>True)) (g5.1) (fun k_ hk=>trivial))))) (Reps.none _ _)));intro p2 q7 h1 hb hg_ L;clear hg_ L;(first|rw [← h8.1] at h1|(simp only [Int.reduceToNat] at h1;rw [← h8.1] at h1));have B:=mk0 (Kd.N_lower h1 (below_size T.1));replace T:=bst T hb;clear b9;clear g5;clear hb h1)|((with_reducible refine gate_dst (N:=21) rfl ?_);(try (refine gate_guard (by rfl) ?_;dsimp only));refine Kd.R_lit (Kd.int .i64) _ 3 ?hg (N:=21) ?hd (xs:=([3,2]:List Int)) (inner:=[.int .i64 3,.int .i64 2]) (ok:=fun _=>True) (okp:=fun _=>True) ?hr ?hp (fun _ hk=>hk) trivial (Below.refl _ _) (Nat.le_refl _) (by simp) ?_;(case hd=>rfl);(case hg=>rfl);(case hr=>first|(go_simp;done)|(go_simp;rfl));(case hp=>exact (Reps.one (show Kd.M (Kd.int .i64) _ _ _ 3 [.int .i64 3] from rfl) (Reps.one (show Kd.M (Kd.int .i64) _ _ _ 2 [.int .i64 2] from rfl) (Reps.none _ _))));intro p3 q8 g3 hb hg_ L;clear hg_ L;(first|rw [← h9.1] at g3|(simp only [Int.reduceToNat] at g3;rw [← h9.1] at g3));have C:=mk0 (Kd.R_lower g3 (below_size T.1));replace B:=mk0 (Kd.N_elder' B.1 (Kd.R_base g3) hb);replace T:=bst T hb;clear hb g3;obtain ⟨a1,a2,m7⟩:=Kd.N_slice B.1;subst m7;obtain ⟨a3,a4,m8⟩:=Kd.R_slice C.1;subst m8)|((with_reducible refine gate_callee (f:=23) rfl ?_);refine goesL_ (some 22) rfl rfl Try.func23 (by kernel_rfl) rfl #[.int .i64 2,.slice a1 E.length a2,.slice a3 Z.length a4] rfl (by (try simp only [m0_,m1_,m2_]);first|done|rfl|(simp only [l0_,l1_];rfl)) ?_;(with_reducible refine (count_Has.calls k 2 (fun k_=>(True∧some k_ ≠ (.slice a3 Z.length a4:Value).ownBlock)) _ _ E _ _ Z true d7 _ ?side1 ?side2 ?side3 A1.1).mono ?_);(case side1=>exact Kd.N_V (B.1));(case side2=>repeat (first|exact (Kd.R_reads' C.1).2.2|(with_reducible refine Kd.C_alloc ?_ _)|(with_reducible refine Kd.C_drewN ?_ _)|(with_reducible refine Kd.C_drew ?_)));(case side3=>exact (Kd.R_reads' C.1).2.1);rintro e q9 ⟨rfl,hb⟩;refine ⟨_,rfl,?_⟩;replace B:=mk0 (Kd.N_below B.1 hb);replace C:=rbl C hb;replace T:=bst T hb;(try clear hb);(try clear hk))|((with_reducible refine gate_dst (N:=27) rfl ?_);(try (refine gate_guard (by rfl) ?_;dsimp only));refine Kd.R_lit (Kd.int .i64) _ 3 ?hg (N:=27) ?hd (xs:=([2,2]:List Int)) (inner:=[.int .i64 2,.int .i64 2]) (ok:=fun _=>True) (okp:=fun _=>True) ?hr ?hp (fun _ hk=>hk) trivial (Below.refl _ _) (Nat.le_refl _) (by simp) ?_;(case hd=>rfl);(case hg=>rfl);(case hr=>first|(go_simp;done)|(go_simp;rfl));(case hp=>exact (Reps.one (show Kd.M (Kd.int .i64) _ _ _ 2 [.int .i64 2] from rfl) (Reps.one (show Kd.M (Kd.int .i64) _ _ _ 2 [.int .i64 2] from rfl) (Reps.none _ _))));intro p4 r0 e3 hb hg_ L;clear hg_ L;(first|rw [← i0.1] at e3|(simp only [Int.reduceToNat] at e3;rw [← i0.1] at e3));have D:=mk0 (Kd.R_lower (Kd.R_new' e3 (Kd.R_lt C.1)) (below_size T.1));replace B:=mk0 (Kd.N_elder' B.1 (Kd.R_base e3) hb);replace C:=mk0 (Kd.R_elder' C.1 (Kd.R_base e3) hb);replace T:=bst T hb;clear hb e3;obtain ⟨a7,a8,m9⟩:=Kd.R_slice D.1;subst m9)|((with_reducible refine gate_callee (f:=23) rfl ?_);refine goesL_ (some 28) rfl rfl Try.func23 (by kernel_rfl) rfl #[.int .i64 2,.slice a1 E.length a2,.slice a7 a0.length a8] rfl (by (try simp only [m0_,m1_,m2_]);first|done|rfl|(simp only [l0_,l1_];rfl)) ?_;(with_reducible refine (count_Has.calls k 2 (fun k_=>((True∧some k_ ≠ (.slice a3 Z.length a4:Value).ownBlock)∧some k_ ≠ (.slice a7 a0.length a8:Value).ownBlock)) _ _ E _ _ a0 false d8 _ ?side1 ?side2 ?side3 A2.1).mono ?_);(case side1=>exact Kd.N_V (B.1));(case side2=>repeat (first|exact (Kd.R_reads' D.1).2.2|(with_reducible refine Kd.C_alloc ?_ _)|(with_reducible refine Kd.C_drewN ?_ _)|(with_reducible refine Kd.C_drew ?_)));(case side3=>exact (Kd.R_reads' D.1).2.1);rintro e r1 ⟨rfl,hb⟩;refine ⟨_,rfl,?_⟩;replace B:=mk0 (Kd.N_below B.1 hb);replace C:=rbl C hb;replace D:=rbl D hb;replace T:=bst T hb;(try clear hb);(try clear hk))|((with_reducible refine gate_callee (f:=35) rfl ?_);refine goesL_ (some 33) rfl rfl Try.func35 (by kernel_rfl) rfl #[.int .i64 2,.slice a1 E.length a2,.int .i64 3] rfl (by (try simp only [m0_,m1_,m2_]);first|done|rfl|(simp only [l0_,l1_];rfl)) ?_;(with_reducible refine (count_Count.calls k 2 _ _ E 3 d9 e0 _ ?side1 ?side2 A3.1).mono ?_);(case side1=>repeat (first|exact (Kd.N_reads' B.1).2.2|(with_reducible refine Kd.C_alloc ?_ _)|(with_reducible refine Kd.C_drewN ?_ _)|(with_reducible refine Kd.C_drew ?_)));(case side2=>exact (Kd.N_reads' B.1).2.1);rintro e r2 ⟨rfl,hb⟩;refine ⟨_,rfl,?_⟩;replace B:=mk0 (Kd.N_below B.1 hb);replace C:=rbl C hb;replace D:=rbl D hb;replace T:=bst T hb;(try clear hb);(try clear hk))|((with_reducible refine gate_callee (f:=29) rfl ?_);refine goesL_ (some 37) rfl rfl Try.func29 (by kernel_rfl) rfl #[.string (⟨#[97,98,46,42]⟩:ByteArray)] rfl (by (try simp only [m0_,m1_,m2_]);first|done|rfl|(simp only [l0_,l1_];rfl)) ?_;(with_reducible refine (count_Image.calls k (⟨#[97,98,46,42]⟩:ByteArray) c3 b5 _ A4.1).mono ?_);rintro e r3 ⟨p5,rfl,m3,hb⟩;refine ⟨_,rfl,?_⟩;have Q:=mk0 (Kd.V_lower (Kd.V_mono (ok':=fun k_=>some k_ ≠ (.slice a1 E.length a2:Value).ownBlock∧some k_ ≠ (.slice a3 Z.length a4:Value).ownBlock∧some k_ ≠ (.slice a7 a0.length a8:Value).ownBlock) m3 (fun k_ hk_=>⟨(Kd.fresh' (Kd.N_lt B.1) k_ hk_),(Kd.fresh' (Kd.R_lt C.1) k_ hk_),(Kd.fresh' (Kd.R_lt D.1) k_ hk_)⟩)) (below_size T.1));replace B:=mk0 (Kd.N_below B.1 hb);replace C:=rbl C hb;replace D:=rbl D hb;replace T:=bst T hb;(try clear hb);(try clear hk);(try clear m3))|((with_reducible refine gate_dst (N:=41) rfl ?_);(try (refine gate_guard (by rfl) ?_;dsimp only));refine Kd.R_lit (Kd.int .i64) _ 3 ?hg (N:=41) ?hd (xs:=([0,1,0]:List Int)) (inner:=[.int .i64 0,.int .i64 1,.int .i64 0]) (ok:=fun _=>True) (okp:=fun _=>True) ?hr ?hp (fun _ hk=>hk) trivial (Below.refl _ _) (Nat.le_refl _) (by simp) ?_;(case hd=>rfl);(case hg=>rfl);(case hr=>first|(go_simp;done)|(go_simp;rfl));(case hp=>exact (Reps.one (show Kd.M (Kd.int .i64) _ _ _ 0 [.int .i64 0] from rfl) (Reps.one (show Kd.M (Kd.int .i64) _ _ _ 1 [.int .i64 1] from rfl) (Reps.one (show Kd.M (Kd.int .i64) _ _ _ 0 [.int .i64 0] from rfl) (Reps.none _ _)))));intro p6 r4 d6 hb hg_ L;clear hg_ L;(first|rw [← i1.1] at d6|(simp only [Int.reduceToNat] at d6;rw [← i1.1] at d6));have G:=mk0 (Kd.R_lower (Kd.R_new' (Kd.R_new' d6 (Kd.R_lt C.1)) (Kd.R_lt D.1)) (below_size T.1));replace B:=mk0 (Kd.N_elder' B.1 (Kd.R_base d6) hb);replace C:=mk0 (Kd.R_elder' C.1 (Kd.R_base d6) hb);replace D:=mk0 (Kd.R_elder' D.1 (Kd.R_base d6) hb);replace Q:=mk0 (Kd.V_elder' Q.1 (Kd.R_base d6) hb);replace T:=bst T hb;clear hb d6;obtain ⟨b1,b2,n0⟩:=Kd.R_slice G.1;subst n0)|((with_reducible refine gate_callee (f:=26) rfl ?_);refine goesL_ (some 42) rfl rfl Try.func26 (by kernel_rfl) rfl #[.string (⟨#[97,42,98,43]⟩:ByteArray),.slice b1 a5.length b2] rfl (by (try simp only [m0_,m1_,m2_]);first|done|rfl|(simp only [l0_,l1_];rfl)) ?_;(with_reducible refine (count_Accepts.calls k (⟨#[97,42,98,43]⟩:ByteArray) _ _ a5 true b6 _ ?side1 ?side2 A5.1).mono ?_);(case side1=>repeat (first|exact (Kd.R_reads' G.1).2.2|(with_reducible refine Kd.C_alloc ?_ _)|(with_reducible refine Kd.C_drewN ?_ _)|(with_reducible refine Kd.C_drew ?_)));(case side2=>exact (Kd.R_reads' G.1).2.1);rintro e r5 ⟨rfl,hb⟩;refine ⟨_,rfl,?_⟩;replace B:=mk0 (Kd.N_below B.1 hb);replace C:=rbl C hb;replace D:=rbl D hb;replace Q:=mk0 (Kd.V_below Q.1 hb);replace G:=rbl G hb;replace T:=bst T hb;(try clear hb);(try clear hk))|((with_reducible refine gate_dst (N:=46) rfl ?_);(try (refine gate_guard (by rfl) ?_;dsimp only));refine Kd.R_lit (Kd.int .i64) _ 3 ?hg (N:=46) ?hd (xs:=([1,1,0]:List Int)) (inner:=[.int .i64 1,.int .i64 1,.int .i64 0]) (ok:=fun _=>True) (okp:=fun _=>True) ?hr ?hp (fun _ hk=>hk) trivial (Below.refl _ _) (Nat.le_refl _) (by simp) ?_;(case hd=>rfl);(case hg=>rfl);(case hr=>first|(go_simp;done)|(go_simp;rfl));(case hp=>exact (Reps.one (show Kd.M (Kd.int .i64) _ _ _ 1 [.int .i64 1] from rfl) (Reps.one (show Kd.M (Kd.int .i64) _ _ _ 1 [.int .i64 1] from rfl) (Reps.one (show Kd.M (Kd.int .i64) _ _ _ 0 [.int .i64 0] from rfl) (Reps.none _ _)))));intro p7 r6 d3 hb hg_ L;clear hg_ L;(first|rw [← i2.1] at d3|(simp only [Int.reduceToNat] at d3;rw [← i2.1] at d3));have R:=mk0 (Kd.R_lower (Kd.R_new' (Kd.R_new' (Kd.R_new' d3 (Kd.R_lt C.1)) (Kd.R_lt D.1)) (Kd.R_lt G.1)) (below_size T.1));replace B:=mk0 (Kd.N_elder' B.1 (Kd.R_base d3) hb);replace C:=mk0 (Kd.R_elder' C.1 (Kd.R_base d3) hb);replace D:=mk0 (Kd.R_elder' D.1 (Kd.R_base d3) hb);replace Q:=mk0 (Kd.V_elder' Q.1 (Kd.R_base d3) hb);replace G:=mk0 (Kd.R_elder' G.1 (Kd.R_base d3) hb);replace T:=bst T hb;clear hb d3;obtain ⟨b3,b4,n1⟩:=Kd.R_slice R.1;subst n1)|((with_reducible refine gate_callee (f:=26) rfl ?_);refine goesL_ (some 47) rfl rfl Try.func26 (by kernel_rfl) rfl #[.string (⟨#[97,42,98,43]⟩:ByteArray),.slice b3 a6.length b4] rfl (by (try simp only [m0_,m1_,m2_]);first|done|rfl|(simp only [l0_,l1_];rfl)) ?_;(with_reducible refine (count_Accepts.calls k (⟨#[97,42,98,43]⟩:ByteArray) _ _ a6 false c4 _ ?side1 ?side2 A6.1).mono ?_);(case side1=>repeat (first|exact (Kd.R_reads' R.1).2.2|(with_reducible refine Kd.C_alloc ?_ _)|(with_reducible refine Kd.C_drewN ?_ _)|(with_reducible refine Kd.C_drew ?_)));(case side2=>exact (Kd.R_reads' R.1).2.1);rintro e r7 ⟨rfl,hb⟩;refine ⟨_,rfl,?_⟩;replace B:=mk0 (Kd.N_below B.1 hb);replace C:=rbl C hb;replace D:=rbl D hb;replace Q:=mk0 (Kd.V_below Q.1 hb);replace G:=rbl G hb;replace R:=rbl R hb;replace T:=bst T hb;(try clear hb);(try clear hk))|((with_reducible refine gate_dst (N:=73) rfl ?_);(try (refine gate_guard (by rfl) ?_;dsimp only));refine Kd.R_lit (Kd.int .i64) _ 3 ?hg (N:=73) ?hd (xs:=([0,0,0]:List Int)) (inner:=[.int .i64 0,.int .i64 0,.int .i64 0]) (ok:=fun _=>True) (okp:=fun _=>True) ?hr ?hp (fun _ hk=>hk) trivial (Below.refl _ _) (Nat.le_refl _) (by simp) ?_;(case hd=>rfl);(case hg=>rfl);(case hr=>first|(go_simp;done)|(go_simp;rfl));(case hp=>exact (Reps.one (show Kd.M (Kd.int .i64) _ _ _ 0 [.int .i64 0] from rfl) (Reps.one (show Kd.M (Kd.int .i64) _ _ _ 0 [.int .i64 0] from rfl) (Reps.one (show Kd.M (Kd.int .i64) _ _ _ 0 [.int .i64 0] from rfl) (Reps.none _ _)))));intro p8 r8 c5 hb hg_ L;clear hg_ L;(first|rw [← i3.1] at c5|(simp only [Int.reduceToNat] at c5;rw [← i3.1] at c5));have a9:=mk0 (Kd.R_lower (Kd.R_new' (Kd.R_new' (Kd.R_new' (Kd.R_new' c5 (Kd.R_lt C.1)) (Kd.R_lt D.1)) (Kd.R_lt G.1)) (Kd.R_lt R.1)) (below_size T.1));replace B:=mk0 (Kd.N_elder' B.1 (Kd.R_base c5) hb);replace C:=mk0 (Kd.R_elder' C.1 (Kd.R_base c5) hb);replace D:=mk0 (Kd.R_elder' D.1 (Kd.R_base c5) hb);replace Q:=mk0 (Kd.V_elder' Q.1 (Kd.R_base c5) hb);replace G:=mk0 (Kd.R_elder' G.1 (Kd.R_base c5) hb);replace R:=mk0 (Kd.R_elder' R.1 (Kd.R_base c5) hb);replace T:=bst T hb;clear hb c5;obtain ⟨e4,e5,n2⟩:=Kd.R_slice a9.1;subst n2)|((with_reducible refine gate_dst (N:=75) rfl ?_);(try (refine gate_guard (by rfl) ?_;dsimp only));refine Kd.R_lit (Kd.int .i64) _ 3 ?hg (N:=75) ?hd (xs:=([1,1,0]:List Int)) (inner:=[.int .i64 1,.int .i64 1,.int .i64 0]) (ok:=fun _=>True) (okp:=fun _=>True) ?hr ?hp (fun _ hk=>hk) trivial (Below.refl _ _) (Nat.le_refl _) (by simp) ?_;(case hd=>rfl);(case hg=>rfl);(case hr=>first|(go_simp;done)|(go_simp;rfl));(case hp=>exact (Reps.one (show Kd.M (Kd.int .i64) _ _ _ 1 [.int .i64 1] from rfl) (Reps.one (show Kd.M (Kd.int .i64) _ _ _ 1 [.int .i64 1] from rfl) (Reps.one (show Kd.M (Kd.int .i64) _ _ _ 0 [.int .i64 0] from rfl) (Reps.none _ _)))));intro h2 r9 c1 hb hg_ L;clear hg_ L;(first|rw [← i4.1] at c1|(simp only [Int.reduceToNat] at c1;rw [← i4.1] at c1));have c0:=mk0 (Kd.R_lower (Kd.R_new' (Kd.R_new' (Kd.R_new' (Kd.R_new' (Kd.R_new' c1 (Kd.R_lt C.1)) (Kd.R_lt D.1)) (Kd.R_lt G.1)) (Kd.R_lt R.1)) (Kd.R_lt a9.1)) (below_size T.1));replace B:=mk0 (Kd.N_elder' B.1 (Kd.R_base c1) hb);replace C:=mk0 (Kd.R_elder' C.1 (Kd.R_base c1) hb);replace D:=mk0 (Kd.R_elder' D.1 (Kd.R_base c1) hb);replace Q:=mk0 (Kd.V_elder' Q.1 (Kd.R_base c1) hb);replace G:=mk0 (Kd.R_elder' G.1 (Kd.R_base c1) hb);replace R:=mk0 (Kd.R_elder' R.1 (Kd.R_base c1) hb);replace a9:=mk0 (Kd.R_elder' a9.1 (Kd.R_base c1) hb);replace T:=bst T hb;clear hb c1)|((with_reducible refine gate_dst (N:=76) rfl ?_);(try (refine gate_guard (by rfl) ?_;dsimp only));refine Kd.R_lit (Kd.int .i64) _ 3 ?hg (N:=76) ?hd (xs:=([1,1,0]:List Int)) (inner:=[.int .i64 1,.int .i64 1,.int .i64 0]) (ok:=fun _=>True) (okp:=fun _=>True) ?hr ?hp (fun _ hk=>hk) trivial (Below.refl _ _) (Nat.le_refl _) (by simp) ?_;(case hd=>rfl);(case hg=>rfl);(case hr=>first|(go_simp;done)|(go_simp;rfl));(case hp=>exact (Reps.one (show Kd.M (Kd.int .i64) _ _ _ 1 [.int .i64 1] from rfl) (Reps.one (show Kd.M (Kd.int .i64) _ _ _ 1 [.int .i64 1] from rfl) (Reps.one (show Kd.M (Kd.int .i64) _ _ _ 0 [.int .i64 0] from rfl) (Reps.none _ _)))));intro p9 o1 b8 hb hg_ L;clear hg_ L;(first|rw [← i5.1] at b8|(simp only [Int.reduceToNat] at b8;rw [← i5.1] at b8));have g6:=mk0 (Kd.R_lower (Kd.R_new' (Kd.R_new' (Kd.R_new' (Kd.R_new' (Kd.R_new' (Kd.R_new' b8 (Kd.R_lt C.1)) (Kd.R_lt D.1)) (Kd.R_lt G.1)) (Kd.R_lt R.1)) (Kd.R_lt a9.1)) (Kd.R_lt c0.1)) (below_size T.1));replace B:=mk0 (Kd.N_elder' B.1 (Kd.R_base b8) hb);replace C:=mk0 (Kd.R_elder' C.1 (Kd.R_base b8) hb);replace D:=mk0 (Kd.R_elder' D.1 (Kd.R_base b8) hb);replace Q:=mk0 (Kd.V_elder' Q.1 (Kd.R_base b8) hb);replace G:=mk0 (Kd.R_elder' G.1 (Kd.R_base b8) hb);replace R:=mk0 (Kd.R_elder' R.1 (Kd.R_base b8) hb);replace a9:=mk0 (Kd.R_elder' a9.1 (Kd.R_base b8) hb);replace c0:=mk0 (Kd.R_elder' c0.1 (Kd.R_base b8) hb);replace T:=bst T hb;clear hb b8;obtain ⟨j9,l0,n3⟩:=Kd.R_slice g6.1;subst n3)|((with_reducible refine gate_dst (N:=77) rfl ?_);(try (refine gate_guard (by rfl) ?_;dsimp only));refine Kd.N_lit (Kd.slice 3 (Kd.int .i64)) _ 23 ?hg (N':=77) ?hd (xs:=([g1]:List (List Int))) (inner:=[.slice j9 g1.length l0]) (ok:=(fun k_=>some k_ ≠ (.slice a1 E.length a2:Value).ownBlock∧some k_ ≠ (.slice a3 Z.length a4:Value).ownBlock∧some k_ ≠ (.slice a7 a0.length a8:Value).ownBlock∧some k_ ≠ (.slice b1 a5.length b2:Value).ownBlock∧some k_ ≠ (.slice b3 a6.length b4:Value).ownBlock∧some k_ ≠ (.slice e4 b0.length e5:Value).ownBlock∧some k_ ≠ (h2:Value).ownBlock)) (okp:=(fun k_=>some k_ ≠ (.slice a1 E.length a2:Value).ownBlock∧some k_ ≠ (.slice a3 Z.length a4:Value).ownBlock∧some k_ ≠ (.slice a7 a0.length a8:Value).ownBlock∧some k_ ≠ (.slice b1 a5.length b2:Value).ownBlock∧some k_ ≠ (.slice b3 a6.length b4:Value).ownBlock∧some k_ ≠ (.slice e4 b0.length e5:Value).ownBlock∧some k_ ≠ (h2:Value).ownBlock)) ?hr ?hp (fun _ hk=>hk) ((show ∀ k_,o1.heap.size ≤ k_ → (fun k_=>some k_ ≠ (.slice a1 E.length a2:Value).ownBlock∧some k_ ≠ (.slice a3 Z.length a4:Value).ownBlock∧some k_ ≠ (.slice a7 a0.length a8:Value).ownBlock∧some k_ ≠ (.slice b1 a5.length b2:Value).ownBlock∧some k_ ≠ (.slice b3 a6.length b4:Value).ownBlock∧some k_ ≠ (.slice e4 b0.length e5:Value).ownBlock∧some k_ ≠ (h2:Value).ownBlock) k_ from fun k_ hk=>⟨Kd.fresh' (Kd.N_lt B.1) k_ hk,Kd.fresh' (Kd.R_lt C.1) k_ hk,Kd.fresh' (Kd.R_lt D.1) k_ hk,Kd.fresh' (Kd.R_lt G.1) k_ hk,Kd.fresh' (Kd.R_lt R.1) k_ hk,Kd.fresh' (Kd.R_lt a9.1) k_ hk,Kd.fresh' (Kd.R_lt c0.1) k_ hk⟩) _ (Nat.le_refl _)) (Below.refl _ _) (Nat.le_refl _) (by simp) ?_;(case hd=>rfl);(case hg=>rfl);(case hr=>first|(go_simp;done)|(go_simp;rfl));(case hp=>exact (Reps.one (show Kd.FK (Kd.slice 3 (Kd.int .i64)) _ _ g1 [.slice j9 g1.length l0] from (Kd.FK_slice_mk (Kd.R_reads' (Kd.R_mono (ok':=(fun k_=>some k_ ≠ (.slice a1 E.length a2:Value).ownBlock∧some k_ ≠ (.slice a3 Z.length a4:Value).ownBlock∧some k_ ≠ (.slice a7 a0.length a8:Value).ownBlock∧some k_ ≠ (.slice b1 a5.length b2:Value).ownBlock∧some k_ ≠ (.slice b3 a6.length b4:Value).ownBlock∧some k_ ≠ (.slice e4 b0.length e5:Value).ownBlock∧some k_ ≠ (h2:Value).ownBlock)) (Kd.R_apart' (g6.1) (Kd.N_typed B.1) (by decide)) (fun k_ hk=>⟨hk.2,⟨hk.1.1.1.1.1.1.2,⟨hk.1.1.1.1.1.2,⟨hk.1.1.1.1.2,⟨hk.1.1.1.2,⟨hk.1.1.2,hk.1.2⟩⟩⟩⟩⟩⟩))).2.1 (Kd.R_F (Kd.R_mono (ok':=(fun k_=>some k_ ≠ (.slice a1 E.length a2:Value).ownBlock∧some k_ ≠ (.slice a3 Z.length a4:Value).ownBlock∧some k_ ≠ (.slice a7 a0.length a8:Value).ownBlock∧some k_ ≠ (.slice b1 a5.length b2:Value).ownBlock∧some k_ ≠ (.slice b3 a6.length b4:Value).ownBlock∧some k_ ≠ (.slice e4 b0.length e5:Value).ownBlock∧some k_ ≠ (h2:Value).ownBlock)) (Kd.R_apart' (g6.1) (Kd.N_typed B.1) (by decide)) (fun k_ hk=>⟨hk.2,⟨hk.1.1.1.1.1.1.2,⟨hk.1.1.1.1.1.2,⟨hk.1.1.1.1.2,⟨hk.1.1.1.2,⟨hk.1.1.2,hk.1.2⟩⟩⟩⟩⟩⟩))))) (Reps.none _ _)));intro q0 o2 c6 hb hg_ L;clear hg_ L;(first|rw [← i6.1] at c6|(simp only [Int.reduceToNat] at c6;rw [← i6.1] at c6));have g7:=mk0 (Kd.N_lower c6 (below_size T.1));replace B:=mk0 (Kd.N_elder' B.1 (by first|exact Kd.N_base c6|exact Kd.S_base c6|exact Kd.R_base c6) hb);replace C:=rbl C hb;replace D:=rbl D hb;replace Q:=mk0 (Kd.V_elder' Q.1 (by first|exact Kd.N_base c6|exact Kd.S_base c6|exact Kd.R_base c6) hb);replace G:=rbl G hb;replace R:=rbl R hb;replace a9:=rbl a9 hb;replace c0:=rbl c0 hb;replace T:=bst T hb;clear g6;clear hb c6;obtain ⟨l1,l2,n4⟩:=Kd.N_slice g7.1;subst n4;obtain ⟨l3,l4,n5⟩:=Kd.R_slice c0.1;subst n5)|((with_reducible refine gate_dst (N:=79) rfl ?_);(try (refine gate_guard (by rfl) ?_;dsimp only));refine Kd.N_lit k60 _ 60 ?hg (N':=79) ?hd (xs:=([(⟨b0,([]:List (List Int))⟩:S60),(⟨d5,e2⟩:S60)]:List (S60))) (inner:=[.slice e4 b0.length e5,.slice none 0 0,.slice l3 d5.length l4,.slice l1 e2.length l2]) (ok:=(fun k_=>some k_ ≠ (.slice a1 E.length a2:Value).ownBlock∧some k_ ≠ (.slice a3 Z.length a4:Value).ownBlock∧some k_ ≠ (.slice a7 a0.length a8:Value).ownBlock∧some k_ ≠ (.slice b1 a5.length b2:Value).ownBlock∧some k_ ≠ (.slice b3 a6.length b4:Value).ownBlock)) (okp:=(fun k_=>some k_ ≠ (.slice a1 E.length a2:Value).ownBlock∧some k_ ≠ (.slice a3 Z.length a4:Value).ownBlock∧some k_ ≠ (.slice a7 a0.length a8:Value).ownBlock∧some k_ ≠ (.slice b1 a5.length b2:Value).ownBlock∧some k_ ≠ (.slice b3 a6.length b4:Value).ownBlock)) ?hr ?hp (fun _ hk=>hk) ((show ∀ k_,o2.heap.size ≤ k_ → (fun k_=>some k_ ≠ (.slice a1 E.length a2:Value).ownBlock∧some k_ ≠ (.slice a3 Z.length a4:Value).ownBlock∧some k_ ≠ (.slice a7 a0.length a8:Value).ownBlock∧some k_ ≠ (.slice b1 a5.length b2:Value).ownBlock∧some k_ ≠ (.slice b3 a6.length b4:Value).ownBlock) k_ from fun k_ hk=>⟨Kd.fresh' (Kd.N_lt B.1) k_ hk,Kd.fresh' (Kd.R_lt C.1) k_ hk,Kd.fresh' (Kd.R_lt D.1) k_ hk,Kd.fresh' (Kd.R_lt G.1) k_ hk,Kd.fresh' (Kd.R_lt R.1) k_ hk⟩) _ (Nat.le_refl _)) (Below.refl _ _) (Nat.le_refl _) (by simp) ?_;(case hd=>rfl);(case hg=>rfl);(case hr=>first|(go_simp;done)|(go_simp;rfl));(case hp=>exact (Reps.c2 (show Kd.FK k60 _ _ (⟨b0,([]:List (List Int))⟩:S60) [.slice e4 b0.length e5,.slice none 0 0] from (k60_mkF _ _ (⟨b0,([]:List (List Int))⟩:S60) (Kd.R_reads' (Kd.R_mono (ok':=(fun k_=>some k_ ≠ (.slice a1 E.length a2:Value).ownBlock∧some k_ ≠ (.slice a3 Z.length a4:Value).ownBlock∧some k_ ≠ (.slice a7 a0.length a8:Value).ownBlock∧some k_ ≠ (.slice b1 a5.length b2:Value).ownBlock∧some k_ ≠ (.slice b3 a6.length b4:Value).ownBlock)) (Kd.R_apart' (a9.1) (Kd.N_typed B.1) (by decide)) (fun k_ hk=>⟨hk.2,⟨hk.1.1.1.1.1.1.2,⟨hk.1.1.1.1.1.2,⟨hk.1.1.1.1.2,hk.1.1.1.2⟩⟩⟩⟩))).2.1 (Kd.R_F (Kd.R_mono (ok':=(fun k_=>some k_ ≠ (.slice a1 E.length a2:Value).ownBlock∧some k_ ≠ (.slice a3 Z.length a4:Value).ownBlock∧some k_ ≠ (.slice a7 a0.length a8:Value).ownBlock∧some k_ ≠ (.slice b1 a5.length b2:Value).ownBlock∧some k_ ≠ (.slice b3 a6.length b4:Value).ownBlock)) (Kd.R_apart' (a9.1) (Kd.N_typed B.1) (by decide)) (fun k_ hk=>⟨hk.2,⟨hk.1.1.1.1.1.1.2,⟨hk.1.1.1.1.1.2,⟨hk.1.1.1.1.2,hk.1.1.1.2⟩⟩⟩⟩))) (Nat.le_refl _) (Kd.F_nil _ _ _))) (Reps.c2 (show Kd.FK k60 _ _ (⟨d5,e2⟩:S60) [.slice l3 d5.length l4,.slice l1 e2.length l2] from (k60_mkF _ _ (⟨d5,e2⟩:S60) (Kd.R_reads' (Kd.R_mono (ok':=(fun k_=>some k_ ≠ (.slice a1 E.length a2:Value).ownBlock∧some k_ ≠ (.slice a3 Z.length a4:Value).ownBlock∧some k_ ≠ (.slice a7 a0.length a8:Value).ownBlock∧some k_ ≠ (.slice b1 a5.length b2:Value).ownBlock∧some k_ ≠ (.slice b3 a6.length b4:Value).ownBlock)) (Kd.R_apart' (c0.1) (Kd.N_typed B.1) (by decide)) (fun k_ hk=>⟨hk.2,⟨hk.1.1.1.1.1.1.2,⟨hk.1.1.1.1.1.2,⟨hk.1.1.1.1.2,hk.1.1.1.2⟩⟩⟩⟩))).2.1 (Kd.R_F (Kd.R_mono (ok':=(fun k_=>some k_ ≠ (.slice a1 E.length a2:Value).ownBlock∧some k_ ≠ (.slice a3 Z.length a4:Value).ownBlock∧some k_ ≠ (.slice a7 a0.length a8:Value).ownBlock∧some k_ ≠ (.slice b1 a5.length b2:Value).ownBlock∧some k_ ≠ (.slice b3 a6.length b4:Value).ownBlock)) (Kd.R_apart' (c0.1) (Kd.N_typed B.1) (by decide)) (fun k_ hk=>⟨hk.2,⟨hk.1.1.1.1.1.1.2,⟨hk.1.1.1.1.1.2,⟨hk.1.1.1.1.2,hk.1.1.1.2⟩⟩⟩⟩))) (Kd.N_reads' (Kd.N_mono (ok':=(fun k_=>some k_ ≠ (.slice a1 E.length a2:Value).ownBlock∧some k_ ≠ (.slice a3 Z.length a4:Value).ownBlock∧some k_ ≠ (.slice a7 a0.length a8:Value).ownBlock∧some k_ ≠ (.slice b1 a5.length b2:Value).ownBlock∧some k_ ≠ (.slice b3 a6.length b4:Value).ownBlock)) (g7.1) (fun k_ hk=>⟨hk.1,⟨hk.2.1,⟨hk.2.2.1,⟨hk.2.2.2.1,hk.2.2.2.2.1⟩⟩⟩⟩))).2.1 (Kd.N_F (Kd.N_mono (ok':=(fun k_=>some k_ ≠ (.slice a1 E.length a2:Value).ownBlock∧some k_ ≠ (.slice a3 Z.length a4:Value).ownBlock∧some k_ ≠ (.slice a7 a0.length a8:Value).ownBlock∧some k_ ≠ (.slice b1 a5.length b2:Value).ownBlock∧some k_ ≠ (.slice b3 a6.length b4:Value).ownBlock)) (g7.1) (fun k_ hk=>⟨hk.1,⟨hk.2.1,⟨hk.2.2.1,⟨hk.2.2.2.1,hk.2.2.2.2.1⟩⟩⟩⟩))))) (Reps.none _ _))));intro q1 s0 d0 hb hg_ L;clear hg_ L;(first|rw [← i7.1] at d0|(simp only [Int.reduceToNat] at d0;rw [← i7.1] at d0));have f9:=mk0 (Kd.N_lower d0 (below_size T.1));replace B:=mk0 (Kd.N_elder' B.1 (by first|exact Kd.N_base d0|exact Kd.S_base d0|exact Kd.R_base d0) hb);replace C:=rbl C hb;replace D:=rbl D hb;replace Q:=mk0 (Kd.V_elder' Q.1 (by first|exact Kd.N_base d0|exact Kd.S_base d0|exact Kd.R_base d0) hb);replace G:=rbl G hb;replace R:=rbl R hb;replace T:=bst T hb;clear a9;clear c0;clear g7;clear hb d0;obtain ⟨q2,q3,n6⟩:=Kd.V_slice Q.1;subst n6;obtain ⟨q4,q5,n7⟩:=Kd.N_slice f9.1;subst n7)|(go_at_call 31;(with_reducible refine (bellpullref05_Same.calls k _ _ c3 _ _ j1 true _ ?side1 ?side2 ?side3 ?side4 n8.1).mono ?_);(case side1=>repeat (first|exact (Kd.V_reads' Q.1).2.2|(with_reducible refine Kd.C_alloc ?_ _)|(with_reducible refine Kd.C_drewN ?_ _)|(with_reducible refine Kd.C_drew ?_)));(case side2=>exact (Kd.V_reads' Q.1).2.1);(case side3=>repeat (first|exact (Kd.N_reads' f9.1).2.2|(with_reducible refine Kd.C_alloc ?_ _)|(with_reducible refine Kd.C_drewN ?_ _)|(with_reducible refine Kd.C_drew ?_)));(case side4=>exact (Kd.N_reads' f9.1).2.1);rintro e s1 ⟨rfl,hb⟩;replace B:=mk0 (Kd.N_below B.1 hb);replace C:=rbl C hb;replace D:=rbl D hb;replace Q:=mk0 (Kd.V_below Q.1 hb);replace G:=rbl G hb;replace R:=rbl R hb;replace f9:=mk0 (Kd.N_below f9.1 hb);replace T:=bst T hb;(try clear hb);(try clear hk)))
            go_ret;exact ⟨by first|rfl|(simp [errW_none,errW_some] <;> rfl)|(simp [*,errW_none,errW_some] <;> rfl),by repeat (first|(with_reducible first|exact T.1|apply below_alloc|apply pw_below_drewN|apply below_drew1)|exact T.1)⟩
          ·
           rw [if_neg c17] at H;exact absurd H (by simp)
         ·
          replace i9:=Bool.eq_false_iff.mpr i9;subst i9;have H1:(none)=some r:=by rw [if_neg (show ¬ (false=true) by decide)] at H;exact H
          clear H;have H:=H1;clear H1;exact absurd H (by simp)
        ·
         rw [if_neg c15] at H;exact absurd H (by simp)
       ·
        replace i8:=Bool.eq_false_iff.mpr i8;subst i8;have H1:(none)=some r:=by rw [if_neg (show ¬ (false=true) by decide)] at H;exact H
        clear H;have H:=H1;clear H1;exact absurd H (by simp)
      ·
       rw [if_neg c12] at H;exact absurd H (by simp)
     ·
      rw [if_neg c11] at H;exact absurd H (by simp)
    ·
     rw [if_neg c10] at H;exact absurd H (by simp)
  ·
   rw [if_neg c8] at H;exact absurd H (by simp)
 ·
  replace c7:=Bool.eq_false_iff.mpr c7;subst c7;have H1:(none)=some r:=by rw [if_neg (show ¬ (false=true) by decide)] at H;exact H
  clear H;have H:=H1;clear H1;exact absurd H (by simp)
end Go.Proofs.Ytkonljiembcdlaa.PC
