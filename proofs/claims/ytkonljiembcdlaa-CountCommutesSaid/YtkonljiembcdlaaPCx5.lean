import Derived.Test.YtkonljiembcdlaaPCx0
import Derived.Test.YtkonljiembcdlaaPCx1
import Derived.Test.YtkonljiembcdlaaPCx2
import Derived.Test.YtkonljiembcdlaaPCx4
namespace Go.Proofs.Ytkonljiembcdlaa.PC
open Go.Proofs.MyWords Go.RowKit Go.Proofs.YtkonljiembcdlaaW.PrintWords Go.Proofs.YtkonljiembcdlaaW.PrintLast Go.Proofs.YtkonljiembcdlaaW.PrintMore
attribute [local go_sem] max2_int min2_int max_two min_two max_three min_three max_four min_four   -- for this text's walks alone
set_option linter.unusedVariables false
set_option linter.unusedSimpArgs false
attribute [local go_sem] eqGuard_slices eqlnil23 neqnil23 eqlnil58 neqnil58
def count_bounded.f (k:Nat) (a0:Int) (a1:Int) (l2:List (List (S60))):Option (Int):=(count_check.f k a1 l2).bind fun t262=>(if t262=3 then (some t262) else (if a0 < 0 then (some 1) else (if a0 > 20 then (some 1) else (some t262))))
theorem count_bounded.mono:∀ a0 a1 a2 k,LeO (count_bounded.f k a0 a1 a2) (count_bounded.f (k + 1) a0 a1 a2):=by
  intro a0 a1 a2 k
  unfold count_bounded.f
  with_reducible repeat' first|exact count_check.mono _ _ _|exact LeO.refl _|exact LeO.none _|refine LeO.ite ?_ ?_|refine LeO.bind ?_ (fun _=>?_)
set_option maxHeartbeats 8000000 in
set_option maxRecDepth 100000 in
theorem count_bounded.calls (k:Nat) (a0:Int) (a1:Int) (A2:Option Addr) (c2:Nat) (l2:List (List (S60))) (r:Int) (w:World) (hr2:Kd.C (Kd.slice 60 k60) w A2 l2.length l2) (hc2:l2.length ≤ c2) (h:count_bounded.f k a0 a1 l2=some r) :
    Calls Try.prog 77 #[.int .i64 a0,.int .i64 a1,.slice A2 l2.length c2] w fun e w'=>e=.returned (.int .i64 r)∧Below w.heap.size w w':=by
 have HR2:=mk0 hr2;have HC2:=mk0 hc2;clear hr2 hc2;have HB:=mk0 (Below.refl w.heap.size w);have H:((count_check.f k a1 l2).bind fun t262=>(if t262=3 then (some t262) else (if a0 < 0 then (some 1) else (if a0 > 20 then (some 1) else (some t262)))))=some r:=h;clear h;replace H:=Option.bind_eq_some_iff.mp H;obtain ⟨t262,A40,H⟩:=H;(try dsimp only at H);have A4:=mk0 A40;clear A40
 by_cases c5:t262=3
 ·
  rw [if_pos c5] at H;have c5b0:(t262 == 3)=true:=beq_iff_eq.mpr c5;have c5b1:(t262 != 3)=false:=bne_eq_false_iff_eq.mpr c5;clear c5;obtain rfl:=Option.some.inj H;go_enter Try.func77,Try.ntmps77;go_wp2_with (first|((with_reducible refine gate_callee (f:=51) rfl ?_);refine goesL_ (some 10) rfl rfl Try.func51 (by kernel_rfl) rfl #[.int .i64 a1,.slice A2 l2.length c2] rfl (by (try simp only [List.map_toArray,List.map_cons,List.map_nil]);first|done|rfl|(simp only [List.length_drop,List.length_take];rfl)) ?_;(with_reducible refine (count_check.calls k a1 _ _ l2 t262 _ ?side1 ?side2 A4.out).mono ?_);(case side1=>repeat (first|exact HR2.out|(with_reducible refine Kd.C_alloc ?_ _)|(with_reducible refine Kd.C_drewN ?_ _)|(with_reducible refine Kd.C_drew ?_)));(case side2=>exact HC2.out);rintro e w6 ⟨rfl,hb⟩;refine ⟨_,rfl,?_⟩;replace HB:=bst HB hb;(try clear hb)));go_ret;exact ⟨by first|rfl|(simp [errW_none,errW_some] <;> rfl)|(simp [*,errW_none,errW_some] <;> rfl),by repeat (first|(with_reducible first|exact HB.out|apply below_alloc|apply pw_below_drewN|apply below_drew1)|exact HB.out)⟩
 ·
  rw [if_neg c5] at H;have c5b0:(t262 == 3)=false:=beq_eq_false_iff_ne.mpr c5;have c5b1:(t262 != 3)=true:=bne_iff_ne.mpr c5
  by_cases c7:a0 < 0
  ·
   rw [if_pos c7] at H;have c7b0:decide (a0 < 0)=true:=decide_eq_true c7;clear c7;obtain rfl:=Option.some.inj H;go_enter Try.func77,Try.ntmps77;go_wp2_with (first|((with_reducible refine gate_callee (f:=51) rfl ?_);refine goesL_ (some 10) rfl rfl Try.func51 (by kernel_rfl) rfl #[.int .i64 a1,.slice A2 l2.length c2] rfl (by (try simp only [List.map_toArray,List.map_cons,List.map_nil]);first|done|rfl|(simp only [List.length_drop,List.length_take];rfl)) ?_;(with_reducible refine (count_check.calls k a1 _ _ l2 t262 _ ?side1 ?side2 A4.out).mono ?_);(case side1=>repeat (first|exact HR2.out|(with_reducible refine Kd.C_alloc ?_ _)|(with_reducible refine Kd.C_drewN ?_ _)|(with_reducible refine Kd.C_drew ?_)));(case side2=>exact HC2.out);rintro e w8 ⟨rfl,hb⟩;refine ⟨_,rfl,?_⟩;replace HB:=bst HB hb;(try clear hb)));go_ret;exact ⟨by first|rfl|(simp [errW_none,errW_some] <;> rfl)|(simp [*,errW_none,errW_some] <;> rfl),by repeat (first|(with_reducible first|exact HB.out|apply below_alloc|apply pw_below_drewN|apply below_drew1)|exact HB.out)⟩
  ·
   rw [if_neg c7] at H;have c7b0:decide (a0 < 0)=false:=decide_eq_false c7;clear c7
   by_cases c9:a0 > 20
   ·
    rw [if_pos c9] at H;have c9b0:decide (20 < a0)=true:=decide_eq_true c9;clear c9;obtain rfl:=Option.some.inj H;go_enter Try.func77,Try.ntmps77;go_wp2_with (first|((with_reducible refine gate_callee (f:=51) rfl ?_);refine goesL_ (some 10) rfl rfl Try.func51 (by kernel_rfl) rfl #[.int .i64 a1,.slice A2 l2.length c2] rfl (by (try simp only [List.map_toArray,List.map_cons,List.map_nil]);first|done|rfl|(simp only [List.length_drop,List.length_take];rfl)) ?_;(with_reducible refine (count_check.calls k a1 _ _ l2 t262 _ ?side1 ?side2 A4.out).mono ?_);(case side1=>repeat (first|exact HR2.out|(with_reducible refine Kd.C_alloc ?_ _)|(with_reducible refine Kd.C_drewN ?_ _)|(with_reducible refine Kd.C_drew ?_)));(case side2=>exact HC2.out);rintro e w10 ⟨rfl,hb⟩;refine ⟨_,rfl,?_⟩;replace HB:=bst HB hb;(try clear hb)));go_ret;exact ⟨by first|rfl|(simp [errW_none,errW_some] <;> rfl)|(simp [*,errW_none,errW_some] <;> rfl),by repeat (first|(with_reducible first|exact HB.out|apply below_alloc|apply pw_below_drewN|apply below_drew1)|exact HB.out)⟩
   ·
    rw [if_neg c9] at H;have c9b0:decide (20 < a0)=false:=decide_eq_false c9;clear c9;obtain rfl:=Option.some.inj H;go_enter Try.func77,Try.ntmps77;go_wp2_with (first|((with_reducible refine gate_callee (f:=51) rfl ?_);refine goesL_ (some 10) rfl rfl Try.func51 (by kernel_rfl) rfl #[.int .i64 a1,.slice A2 l2.length c2] rfl (by (try simp only [List.map_toArray,List.map_cons,List.map_nil]);first|done|rfl|(simp only [List.length_drop,List.length_take];rfl)) ?_;(with_reducible refine (count_check.calls k a1 _ _ l2 t262 _ ?side1 ?side2 A4.out).mono ?_);(case side1=>repeat (first|exact HR2.out|(with_reducible refine Kd.C_alloc ?_ _)|(with_reducible refine Kd.C_drewN ?_ _)|(with_reducible refine Kd.C_drew ?_)));(case side2=>exact HC2.out);rintro e w11 ⟨rfl,hb⟩;refine ⟨_,rfl,?_⟩;replace HB:=bst HB hb;(try clear hb)));go_ret;exact ⟨by first|rfl|(simp [errW_none,errW_some] <;> rfl)|(simp [*,errW_none,errW_some] <;> rfl),by repeat (first|(with_reducible first|exact HB.out|apply below_alloc|apply pw_below_drewN|apply below_drew1)|exact HB.out)⟩
theorem clip_int.calls (A0:Option Addr) (n c0:Nat) (w:World) (hc0:n ≤ c0) :
    Calls Try.prog 97 #[.slice A0 n c0] w fun e w'=>e=.returned (.slice A0 n n)∧w=w':=by
  obtain ⟨i0,hi0,_,hsz,_⟩:=info_parts info3
  have hcut:=Go.Proofs.MyWords.cut_to_m (P:=Try.prog) 23 3 .i64 .i64 Try.underlying23 hi0 A0 n c0 (n:Int) (by omega) (by omega) hc0
  simp only [Int.toNat_natCast] at hcut
  clear hi0 hsz
  go_enter Try.func97,Try.ntmps97
  go_wp2
  go_ret
  exact ⟨rfl,rfl⟩
def clipAppend.f (l:List Int) (x:Int):Option (List Int):=if l.length < 17592186044416 then some (l ++ [x]) else none
section
variable {P:Program} {ops:Array Oper} {rest:List Oper} {o:Oper} {a:Act} {Q:Exit → Act → World → Prop}
theorem clip_append_int {W:World} (hgd:o.guard=none) (s x:Operand) (t e:TypeId)
    (ho:o.op=.call { callee:=.builtin .append,args:=#[s,x],argTypes:=#[t,t] })
    (ht:P.underlying t=some (.slice e)) (hinfo:(P.info? e).map (fun i=>(i.zero,i.size,i.bytes))=some (some (.int .i64 0),1,8))
    (A:Option Addr) (l:List Int) (y:Int) (r:List Int) (hf:clipAppend.f l y=some r)
    (hs:a.eval s=.slice A l.length l.length) (hx:a.eval x=.slice (some ⟨W.heap.size,0,none⟩) 1 1)
    (hr:Kd.C (Kd.int .i64) W A l.length l)
    (h:∀ v1 w1,Kd.R (Kd.int .i64) e w1 W.heap.size (fun _=>True) v1 r → Below W.heap.size W w1 → wpList P ops Q rest (a.put o.dst v1) w1) :
    wpList P ops Q (o :: rest) a (W.alloc (.cells #[.int .i64 y] e)):=by
  unfold clipAppend.f at hf
  split at hf
  · rename_i hlt
    obtain rfl:=Option.some.inj hf
    obtain ⟨i0,hi,hzz⟩:=Option.map_eq_some_iff.1 hinfo
    simp only [Prod.mk.injEq] at hzz
    obtain ⟨hz0,hz1,hz2⟩:=hzz
    have hr2:ReadsInt W .i64 A l.length l:=Kd.reads_of_C (enc:=Value.int .i64) (d:=(0:Int)) (h1:=fun _=>rfl) hr
    refine wpList_append_grows (W.alloc (.cells #[.int .i64 y] e)) hgd s x t ho e i0 (.int .i64 0) 1 8 ht hi hz0 hz1 hz2 rfl (by omega) A l.length l.length (nums .i64 l) hs ?_ (by simp [nums]) ?_ ⟨W.heap.size,0,none⟩ 1 1 [.int .i64 y] hx rfl
      (World.news_of_block (cs:=#[.int .i64 y]) (t:=e) (fr:=(0,0)) (heap_alloc_new W _)) (by intro u hu;simp at hu;subst hu;rfl) (by omega) (by unfold maxLen;omega) (by omega) ?_
    · intro hA
      rcases Nat.eq_zero_or_pos l.length with h0|h0
      · exact ⟨h0,h0⟩
      · obtain ⟨ad,h1,_⟩:=hr2.2.2 h0
        rw [hA] at h1;cases h1
    · intro b hb j u hj
      have hjl:j < l.length:=by
        rcases Nat.lt_or_ge j l.length with h'|h'
        · exact h'
        · rw [List.getElem?_eq_none (by rw [nums_length];exact h')] at hj;cases hj
      obtain ⟨ad,h1,hc⟩:=hr2.2.2 (by omega)
      rw [hb] at h1;injection h1 with h1;subst h1
      have:=pw_cell_below (below_alloc (Below.refl W.heap.size W) (.cells #[.int .i64 y] e)) (hc j hjl)
      rw [this]
      simp [nums,List.getElem?_eq_getElem hjl] at hj
      subst hj
      simp [List.getD_eq_getElem?_getD,List.getElem?_eq_getElem hjl]
    · intro v1 w1 hown hg
      refine h v1 w1 ?_ ?_
      · refine Kd.R_of_own (enc:=Value.int .i64) (h1:=fun _=>rfl) ?_ (fun _ _=>trivial)
        have e1:encs (Value.int .i64) (l ++ [y])=nums .i64 l ++ [.int .i64 y]:=by simp [encs,nums]
        rw [e1,List.length_append]
        refine ⟨hown.1,hown.2.imp id (fun ⟨g,cap,cur,q1,q2,q3⟩=>⟨g,cap,cur,q1,?_,q3⟩)⟩
        simp at q2;omega
      · exact (below_alloc (Below.refl W.heap.size W) _).grown hg (by simp) (by intro k hk;cases hk)
  · cases hf
end
def vecs:Nat → Nat → List Int → List (List Int)
  | 0,s,pre=>[pre ++ [(s:Int)]]
  | d + 1,s,pre=>(List.range (s + 1)).flatMap fun (x:Nat)=>vecs d (s - x) (pre ++ [(x:Int)])
def visit (go:List (List Int) → Bool):List (List Int) → List (List Int) → List (List Int) × Bool
  | vs,[]=>(vs,true)
  | vs,v :: r=>if go (vs ++ [v])=true then visit go (vs ++ [v]) r else (vs ++ [v],false)
theorem visit_append (go:List (List Int) → Bool):∀ (l1 l2 vs:List (List Int)),visit go vs (l1 ++ l2)=if (visit go vs l1).2=true then visit go (visit go vs l1).1 l2 else visit go vs l1
  | [],l2,vs=>rfl
  | v :: r,l2,vs=>by
    rw [List.cons_append]
    by_cases h:go (vs ++ [v])=true
    · rw [visit,if_pos h,visit_append go r l2 _]
      rw [show visit go vs (v :: r)=visit go (vs ++ [v]) r from by rw [visit,if_pos h]]
    · rw [visit,if_neg h,show visit go vs (v :: r)=(vs ++ [v],false) from by rw [visit,if_neg h]];rfl
def visitTo (go:List (List Int) → Bool) (vs:List (List Int)) (d s:Nat) (pre:List Int) (x:Nat):List (List Int) × Bool :=
  visit go vs ((List.range x).flatMap fun (y:Nat)=>vecs d (s - y) (pre ++ [(y:Int)]))
theorem visitTo_succ (go:List (List Int) → Bool) (vs:List (List Int)) (d s:Nat) (pre:List Int) (x:Nat) (h:(visitTo go vs d s pre x).2=true) :
    visitTo go vs d s pre (x + 1)=visit go (visitTo go vs d s pre x).1 (vecs d (s - x) (pre ++ [(x:Int)])):=by
  unfold visitTo at h ⊢
  rw [List.range_succ,List.flatMap_append,visit_append,if_pos h]
  simp
theorem visitTo_stop (go:List (List Int) → Bool) (vs:List (List Int)) (d s:Nat) (pre:List Int) (x y:Nat) (hx:x ≤ y) (h:(visitTo go vs d s pre x).2=false):visitTo go vs d s pre y=visitTo go vs d s pre x:=by
  induction y with
  | zero =>
    obtain rfl:x=0:=by omega
    rfl
  | succ y ih =>
    by_cases e:x=y + 1
    · subst e;rfl
    · have:=ih (by omega)
      rw [← this] at h
      rw [← this]
      unfold visitTo at h ⊢
      rw [List.range_succ,List.flatMap_append,visit_append,if_neg (by rw [h];decide)]
theorem mem_vecs_succ {d s x:Nat} {pre v:List Int} (hx:x ≤ s) (h:v ∈ vecs d (s - x) (pre ++ [(x:Int)])):v ∈ vecs (d + 1) s pre:=by
  unfold vecs
  exact List.mem_flatMap.2 ⟨x,by rw [List.mem_range];omega,h⟩
def TellsV (g:Nat) (lb:Array Value) (gc:Nat) (I:World → List (List Int) → Prop) (go:List (List Int) → Bool) (D:List Int → Prop):Prop :=
  ∀ (W:World) (A:Option Addr) (c:Nat) (v:List Int) (vs:List (List Int)),I W vs → D v → v.length ≤ c → gc < W.heap.size → Kd.F (Kd.int .i64) W (fun k=>k ≠ gc) A v.length v →
    Calls Try.prog g (#[.slice A v.length c] ++ lb) W fun e w'=>e=.returned (.bool (go (vs ++ [v])))∧I w' (vs ++ [v])∧W.grownBy w' (some gc)
theorem grown_trans {a b c:World} {g:Nat} (h:a.grownBy b (some g)) (k:b.grownBy c (some g)):a.grownBy c (some g) :=
  ⟨k.os.trans h.os,k.tape.trans h.tape,k.output.trans h.output,Nat.le_trans h.size k.size,fun i hi hn=>(k.block i (Nat.lt_of_lt_of_le hi h.size) hn).trans (h.block i hi hn)⟩
theorem below_grown {a b:World} (g:Nat) (h:Below a.heap.size a b):a.grownBy b (some g):=⟨h.os,h.tape,h.output,h.size,fun i hi _=>h.block i hi⟩
theorem F_grown {w w':World} {g:Nat} {A:Option Addr} {xs:List Int} (h:Kd.F (Kd.int .i64) w (fun k=>k ≠ g) A xs.length xs) (hg:w.grownBy w' (some g)):Kd.F (Kd.int .i64) w' (fun k=>k ≠ g) A xs.length xs :=
  Kd.F_step h (fun k hk hlt=>hg.block k hlt (fun e=>hk (by injection e)))
set_option maxHeartbeats 2000000 in
set_option maxRecDepth 100000 in
theorem count_vectors.calls (g:Nat) (lb:Array Value) (gc:Nat) (I:World → List (List Int) → Prop) (go:List (List Int) → Bool) (D:List Int → Prop)
    (eg:∀ args w,(callFunc g args).run Try.prog w=.ok (.enter g args) w) (hT:TellsV g lb gc I go D) (hKB:∀ W W' vs,I W vs → Below W.heap.size W W' → I W' vs) :
    ∀ (d s:Nat) (pre:List Int) (A:Option Addr) (c:Nat) (vs:List (List Int)) (w:World),gc < w.heap.size → I w vs → Kd.F (Kd.int .i64) w (fun k=>k ≠ gc) A pre.length pre → pre.length ≤ c → pre.length + d ≤ 100 → s ≤ 100 → (∀ v ∈ vecs d s pre,D v) →
      Calls Try.prog 78 #[.int .i64 ((d:Int) + 1),.int .i64 (s:Int),.slice A pre.length c,.func (.func g) #[] lb] w fun e w'=>e=.returned (.bool (visit go vs (vecs d s pre)).2)∧I w' (visit go vs (vecs d s pre)).1∧w.grownBy w' (some gc)
  | 0,s,pre,A,c,vs,w,hgc,hI,hF,hc,hl,hs,hD=>by
    obtain ⟨L,hL⟩:∃ L,L=pre ++ [(s:Int)]:=⟨_,rfl⟩
    have hf0:clipAppend.f pre (s:Int)=some L:=by unfold clipAppend.f;rw [if_pos (by omega),hL]
    have hDL:D L:=by rw [hL];exact hD (pre ++ [(s:Int)]) (by simp [vecs])
    have HLL:=Aside0.mk hL
    clear hL
    have HA:=Aside0.mk hf0
    have HF:=Aside0.mk hF
    have HI:=Aside0.mk hI
    have HG:=Aside0.mk hgc
    have HT:=Aside0.mk hT
    have HK:=Aside0.mk hKB
    have HDD:=Aside0.mk hDL
    have HC:=Aside0.mk hc
    clear hF hI hgc hT hKB hD hl hf0 hc hDL
    have hd0:((0:Nat):Int) + 1=1:=rfl
    rw [hd0]
    go_enter Try.func78,Try.ntmps78
    go_wp2_with (first
      | (go_at_call 97;(with_reducible refine (clip_int.calls A pre.length c _ HC.out).mono ?_);rintro e w1 ⟨rfl,rfl⟩)
      | ((with_reducible refine gate_builtin (b:=.append) (xs:=#[.tmp 14,.tmp 16]) rfl ?_);at_builtin;refine clip_append_int rfl (.tmp 14) (.tmp 16) 23 3 rfl Try.underlying23 info3 A pre (s:Int) _ HA.out rfl rfl (Kd.F_now HF.out) ?_;intro v1 w1 hR hb;obtain ⟨A1,c1,rfl,hl1,_⟩:=Kd.R_reads hR;have HL1:=Aside0.mk hl1;have HR:=Aside0.mk hR;have HB:=Aside0.mk hb;clear hR hb hl1))
    have hF1:Kd.F (Kd.int .i64) w1 (fun k=>k ≠ gc) A1 L.length L:=Kd.F_mono (Kd.R_F (Kd.R_bound HR.out)) (fun k hk=>by have:=HG.out;omega)
    refine (HT.out _ A1 c1 _ vs (HK.out _ _ _ HI.out HB.out) HDD.out HL1.out (Nat.lt_of_lt_of_le HG.out HB.out.size) hF1).mono ?_
    rintro e w2 ⟨rfl,hI2,hg2⟩
    have HI2:=Aside0.mk hI2
    have HG2:=Aside0.mk (grown_trans (below_grown gc HB.out) hg2)
    clear hI2 hg2 hF1
    go_wp2
    go_ret
    have e1:visit go vs (vecs 0 s pre)=(vs ++ [L],go (vs ++ [L])):=by
      rw [HLL.out]
      unfold vecs visit visit
      cases go (vs ++ [pre ++ [(s:Int)]]) <;> rfl
    rw [e1]
    exact ⟨rfl,HI2.out,HG2.out⟩
  | d + 1,s,pre,A,c,vs,w,hgc,hI,hF,hc,hl,hs,hD=>by
    have IH:=Aside0.mk (count_vectors.calls g lb gc I go D eg hT hKB d)
    have HF:=Aside0.mk hF
    have HI:=Aside0.mk hI
    have HG:=Aside0.mk hgc
    have HK:=Aside0.mk hKB
    have HDD:=Aside0.mk hD
    have HC:=Aside0.mk hc
    have HL:=Aside0.mk hl
    have HS:=Aside0.mk hs
    clear hF hI hgc hT hKB hD hl hc hs
    obtain ⟨m,hm⟩:∃ m:Int,m=((d + 1:Nat):Int) + 1:=⟨_,rfl⟩
    have hd1:(m == 1)=false:=beq_eq_false_iff_ne.mpr (by omega)
    have hw1:wrap64 (m - 1)=(d:Int) + 1:=by have:=HL.out;unfold wrap64;omega
    rw [← hm]
    clear hm
    go_enter Try.func78,Try.ntmps78
    go_wp2
    go_loopw [9] (fun v9 w'=>∃ x:Nat,v9=.int .i64 (x:Int)∧Aside0 (x ≤ s + 1)∧Aside0 ((visitTo go vs d s pre x).2=true)∧Aside0 (I w' (visitTo go vs d s pre x).1)∧Aside0 (w.grownBy w' (some gc))) (fun v9 _=>s + 1 - (intOf v9).toNat)
    case atStart=>exact ⟨0,rfl,⟨by omega⟩,⟨rfl⟩,HI,⟨⟨rfl,rfl,rfl,Nat.le_refl _,fun _ _ _=>rfl⟩⟩⟩
    case round =>
      clear HI
      obtain ⟨x,rfl,HX,HV,HI,HGR⟩:=hrel
      by_cases hlt:x ≤ s
      · have hd2:decide ((x:Int) ≤ (s:Int))=true:=decide_eq_true (by omega)
        have hd3:decide (x ≤ s)=true:=decide_eq_true hlt
        have hws:wrap64 ((s:Int) - (x:Int))=((s - x:Nat):Int):=by have:=HS.out;unfold wrap64;omega
        have hwx:wrap64 ((x:Int) + 1)=((x + 1:Nat):Int):=by have:=HS.out;unfold wrap64;omega
        have HWX:=Aside0.mk hwx
        clear hwx
        obtain ⟨L,hL⟩:∃ L,L=pre ++ [(x:Int)]:=⟨_,rfl⟩
        have HA:=Aside0.mk (show clipAppend.f pre (x:Int)=some L from by unfold clipAppend.f;rw [if_pos (by have:=HL.out;omega),hL])
        have HLL:=Aside0.mk hL
        clear hL
        have HLT:=Aside0.mk hlt
        have HFW:=Aside0.mk (F_grown HF.out HGR.out)
        have HSX:=Aside0.mk (visitTo_succ go vs d s pre x HV.out)
        rcases hq:visit go (visitTo go vs d s pre x).1 (vecs d (s - x) L) with ⟨vs2,b⟩
        rw [← HLL.out,hq] at HSX
        have HIH:Aside0 (∀ (A1:Option Addr) (c1:Nat) (W:World),w.heap.size ≤ W.heap.size → I W (visitTo go vs d s pre x).1 → Kd.F (Kd.int .i64) W (fun k=>k ≠ gc) A1 L.length L → L.length ≤ c1 →
            Calls Try.prog 78 #[.int .i64 ((d:Int) + 1),.int .i64 ((s - x:Nat):Int),.slice A1 L.length c1,.func (.func g) #[] lb] W fun e w'=>e=.returned (.bool b)∧I w' vs2∧W.grownBy w' (some gc)):=⟨fun A1 c1 W h1 h2 h3 h4=>by
          refine (IH.out (s - x) L A1 c1 _ W (Nat.lt_of_lt_of_le HG.out h1) h2 h3 h4 (by rw [HLL.out,List.length_append];have:=HL.out;simp;omega) (by have:=HS.out;omega) (fun v hv=>HDD.out v (mem_vecs_succ HLT.out (by rw [← HLL.out];exact hv)))).mono ?_
          rintro e w' ⟨rfl,h5,h6⟩
          rw [hq] at h5
          rw [hq]
          exact ⟨rfl,h5,h6⟩⟩
        clear hlt hq
        cases b with
        | true =>
          go_wp2_with (first
            | (go_at_call 97;(with_reducible refine (clip_int.calls A pre.length c _ HC.out).mono ?_);rintro e w1 ⟨rfl,rfl⟩)
            | ((with_reducible refine gate_builtin (b:=.append) (xs:=#[.tmp 30,.tmp 32]) rfl ?_);at_builtin;refine clip_append_int rfl (.tmp 30) (.tmp 32) 23 3 rfl Try.underlying23 info3 A pre (x:Int) _ HA.out rfl rfl (Kd.F_now HFW.out) ?_;intro v1 w1 hR hb;obtain ⟨A1,c1,rfl,hl1,_⟩:=Kd.R_reads hR;have HL1:=Aside0.mk hl1;have HR:=Aside0.mk hR;have HB:=Aside0.mk hb;clear hR hb hl1)
            | (go_at_call 78;(with_reducible refine (HIH.out A1 c1 _ (Nat.le_trans HGR.out.size HB.out.size) (HK.out _ _ _ HI.out HB.out) (Kd.F_mono (Kd.R_F (Kd.R_bound HR.out)) (fun k hk=>by have:=HG.out;have:=HGR.out.size;omega)) HL1.out).mono ?_);rintro e w2 ⟨rfl,hI2,hg2⟩;have HI2:=Aside0.mk hI2;have HG2:=Aside0.mk (grown_trans HGR.out (grown_trans (below_grown gc HB.out) hg2));clear hI2 hg2))
          go_roundw
          case rel=>exact ⟨x + 1,congrArg _ HWX.out,⟨by have:=HLT.out;omega⟩,⟨by rw [HSX.out]⟩,⟨by rw [HSX.out];exact HI2.out⟩,HG2⟩
          case measure=>rw [HWX.out];simp only [intOf];have:=HLT.out;omega
        | false =>
          go_wp2_with (first
            | (go_at_call 97;(with_reducible refine (clip_int.calls A pre.length c _ HC.out).mono ?_);rintro e w1 ⟨rfl,rfl⟩)
            | ((with_reducible refine gate_builtin (b:=.append) (xs:=#[.tmp 30,.tmp 32]) rfl ?_);at_builtin;refine clip_append_int rfl (.tmp 30) (.tmp 32) 23 3 rfl Try.underlying23 info3 A pre (x:Int) _ HA.out rfl rfl (Kd.F_now HFW.out) ?_;intro v1 w1 hR hb;obtain ⟨A1,c1,rfl,hl1,_⟩:=Kd.R_reads hR;have HL1:=Aside0.mk hl1;have HR:=Aside0.mk hR;have HB:=Aside0.mk hb;clear hR hb hl1)
            | (go_at_call 78;(with_reducible refine (HIH.out A1 c1 _ (Nat.le_trans HGR.out.size HB.out.size) (HK.out _ _ _ HI.out HB.out) (Kd.F_mono (Kd.R_F (Kd.R_bound HR.out)) (fun k hk=>by have:=HG.out;have:=HGR.out.size;omega)) HL1.out).mono ?_);rintro e w2 ⟨rfl,hI2,hg2⟩;have HI2:=Aside0.mk hI2;have HG2:=Aside0.mk (grown_trans HGR.out (grown_trans (below_grown gc HB.out) hg2));clear hI2 hg2))
          go_ret
          have e:visit go vs (vecs (d + 1) s pre)=(vs2,false):=by
            rw [← HSX.out,← visitTo_stop go vs d s pre (x + 1) (s + 1) (by have:=HLT.out;omega) (by rw [HSX.out])]
            unfold vecs visitTo;rfl
          rw [e]
          exact ⟨rfl,HI2.out,HG2.out⟩
      · have hd2:decide ((x:Int) ≤ (s:Int))=false:=decide_eq_false (by omega)
        have hd3:decide (x ≤ s)=false:=decide_eq_false hlt
        have hx:x=s + 1:=by have:=HX.out;omega
        subst hx
        go_wp2
        go_ret
        have e:visit go vs (vecs (d + 1) s pre)=visitTo go vs d s pre (s + 1):=by unfold vecs visitTo;rfl
        rw [e,HV.out]
        exact ⟨rfl,HI.out,HGR.out⟩
-- NOT PRINTED: function 79 (count_Count_1)
def manyOf (p:List Int → Bool) (vs:List (List Int)):Int:=((vs.filter p).length:Int)
theorem manyOf_snoc (p:List Int → Bool) (vs:List (List Int)) (v:List Int):manyOf p (vs ++ [v])=manyOf p vs + if p v=true then 1 else 0:=by
  unfold manyOf
  rw [List.filter_append]
  by_cases h:p v=true <;> simp [h]
theorem wrap64_succ (x:Int):wrap64 (wrap64 x + 1)=wrap64 (x + 1):=by unfold wrap64;omega
theorem visit_true (vs:List (List Int)):∀ l,visit (fun _=>true) vs l=(vs ++ l,true)
  | []=>by simp [visit]
  | v :: r=>by
    have:visit (fun _=>true) vs (v :: r)=visit (fun _=>true) (vs ++ [v]) r:=by rw [visit,if_pos rfl]
    rw [this,visit_true (vs ++ [v]) r]
    simp
def count_Count.go (k:Nat) (set:List S60):List (List Int) → Option Int
  | []=>some 0
  | v :: r=>(count_has.f k set v).bind fun b=>(count_Count.go k set r).bind fun n=>some (n + if b=true then 1 else 0)
def count_Count.f (k:Nat) (d:Int) (l1:List S60) (n:Int):Option (Int × Int):=(count_bounded.f k n d [l1]).bind fun e=>if e=0 then (if 1 ≤ d∧d ≤ 20∧0 ≤ n∧n ≤ 20 then (count_Count.go k l1 (vecs (d - 1).toNat n.toNat [])).bind fun m=>some (wrap64 m,0) else none) else some (0,e)
theorem count_Count.mono_g (k:Nat) (set:List S60):∀ l,LeO (count_Count.go k set l) (count_Count.go (k + 1) set l)
  | []=>LeO.refl _
  | v :: r=>LeO.bind (count_has.mono _ _ k) (fun _=>LeO.bind (count_Count.mono_g k set r) (fun _=>LeO.refl _))
theorem count_Count.mono:∀ a0 a1 a2 k,LeO (count_Count.f k a0 a1 a2) (count_Count.f (k + 1) a0 a1 a2):=fun a0 a1 a2 k=>by
  unfold count_Count.f
  exact LeO.bind (count_bounded.mono _ _ _ k) (fun _=>LeO.ite (LeO.ite (LeO.bind (count_Count.mono_g k _ _) (fun _=>LeO.refl _)) (LeO.refl _)) (LeO.refl _))
theorem count_Count.go_some (k:Nat) (set:List S60):∀ (l:List (List Int)) (m:Int),count_Count.go k set l=some m → (∀ v ∈ l,(count_has.f k set v).isSome=true)∧m=manyOf (fun v=>(count_has.f k set v).getD false) l
  | [],m,h=>⟨fun v hv=>by simp at hv,by obtain rfl:=Option.some.inj h;rfl⟩
  | x :: xs,m,h=>by
    obtain ⟨b,hb,h⟩:=Option.bind_eq_some_iff.mp h
    obtain ⟨c,hc,h⟩:=Option.bind_eq_some_iff.mp h
    obtain rfl:=Option.some.inj h
    obtain ⟨h1,h2⟩:=count_Count.go_some k set xs c hc
    refine ⟨fun y hy=>?_,?_⟩
    · rcases List.mem_cons.mp hy with rfl|hy
      · rw [hb];rfl
      · exact h1 y hy
    · unfold manyOf at h2 ⊢
      rw [List.filter_cons,hb,h2]
      cases b <;> simp
theorem C_one_row {w:World} {g:Nat} {A:Option Addr} {c:Nat} {l:List S60} (h:w.heap[g]?=some (.cells #[.slice A l.length c] 22 (0,0))) (hC:Kd.C k60 w A l.length l) (hc:l.length ≤ c):Kd.C (Kd.slice 60 k60) w (some ⟨g,0,none⟩) [l].length [l]:=by
  refine ⟨rfl,by simp,fun _=>⟨⟨g,0,none⟩,rfl,fun q u hq=>?_⟩⟩
  have hq0:q=0:=by
    cases q with
    | zero=>rfl
    | succ q=>simp at hq
  subst hq0
  have hu:u=l:=by simpa using hq.symm
  subst hu
  refine ⟨[.slice A u.length c],rfl,⟨A,c,rfl,hc,hC⟩,fun a b hab=>?_⟩
  have ha0:a=0:=by
    cases a with
    | zero=>rfl
    | succ a=>simp at hab
  subst ha0
  have hb:b=.slice A u.length c:=by simpa using hab.symm
  subst hb
  have e:(⟨g,0,none⟩:Addr).add (0 * (Kd.slice 60 k60).sz + 0)=⟨g,0,none⟩:=by simp [Addr.add]
  rw [e,blk_cell h]
  rfl
def CountInv (w:World) (p:List Int → Bool) (A:Option Addr) (c:Nat) (set:List S60) (gs gm:Nat) (W:World) (vs:List (List Int)):Prop :=
  Below w.heap.size w W∧W.heap[gs]?=some (.cells #[.slice A set.length c] 22 (0,0))∧W.heap[gm]?=some (.cells #[.int .i64 (wrap64 (manyOf p vs))] 3 (0,0))∧Aside0 (w.heap.size ≤ gs∧gs ≠ gm∧w.heap.size ≤ gm∧Kd.C k60 w A set.length set∧set.length ≤ c)
set_option maxHeartbeats 1000000 in
set_option maxRecDepth 100000 in
theorem count_Count.tells (k:Nat) (A:Option Addr) (c:Nat) (set:List S60) (gs gm:Nat) (w:World) :
    TellsV 79 #[.pointer (some ⟨gs,0,none⟩),.pointer (some ⟨gm,0,none⟩)] gm (CountInv w (fun v=>(count_has.f k set v).getD false) A c set gs gm) (fun _=>true) (fun v=>(count_has.f k set v).isSome=true):=fun W A0 c0 v vs hI hD hl hg hF=>by
  obtain ⟨b,hb⟩:=Option.isSome_iff_exists.mp hD
  obtain ⟨hB,hcs,hcm,hX⟩:=hI
  have hms:wrap64 (manyOf (fun v=>(count_has.f k set v).getD false) (vs ++ [v]))=if b=true then wrap64 (wrap64 (manyOf (fun v=>(count_has.f k set v).getD false) vs) + 1) else wrap64 (manyOf (fun v=>(count_has.f k set v).getD false) vs):=by
    rw [manyOf_snoc]
    simp only [hb,Option.getD_some]
    cases b
    · simp
    · simp only [if_true];exact (wrap64_succ _).symm
  have hSlt:gs < W.heap.size:=(Array.getElem?_eq_some_iff.1 hcs).1
  have HAS:=Aside0.mk (count_has.calls k A c set A0 c0 v b W (Kd.C_below hX.out.2.2.2.1 hB) hX.out.2.2.2.2 (Kd.F_now hF) hl hb)
  have HB:=Aside0.mk hB
  have HCS:=Aside0.mk hcs
  have HCM:=Aside0.mk hcm
  have HMS:=Aside0.mk hms
  have HG:=Aside0.mk hg
  have hc1:W.cell? ⟨gs,0,none⟩=some (.slice A set.length c):=(blk_cell hcs 0).trans rfl
  clear hD hb hB hcs hcm hms hg hF hl hSlt
  generalize hm:wrap64 (manyOf (fun v=>(count_has.f k set v).getD false) vs)=m at HMS HCM
  show Calls Try.prog 79 #[.slice A0 v.length c0,.pointer (some ⟨gs,0,none⟩),.pointer (some ⟨gm,0,none⟩)] W _
  go_enter Try.func79,Try.ntmps79
  cases b with
  | false =>
    go_wp2_with (go_at_call 53;(with_reducible refine HAS.out.mono ?_);rintro e w1 ⟨rfl,hb1⟩;have HB1:=Aside0.mk hb1;clear hb1)
    go_ret
    refine ⟨rfl,⟨HB.out.trans (HB1.out.mono HB.out.size),?_,?_,hX⟩,below_grown gm HB1.out⟩
    · exact (HB1.out.block gs (Array.getElem?_eq_some_iff.1 HCS.out).1).trans HCS.out
    · rw [HMS.out.trans (if_neg Bool.false_ne_true)];exact (HB1.out.block gm HG.out).trans HCM.out
  | true =>
    go_wp2_with (go_at_call 53;(with_reducible refine HAS.out.mono ?_);rintro e w1 ⟨rfl,hb1⟩;have HB1:=Aside0.mk hb1;clear hb1;have HM1:=Aside0.mk ((HB1.out.block gm HG.out).trans HCM.out);have hc2:w1.cell? ⟨gm,0,none⟩=some (.int .i64 m):=(blk_cell HM1.out 0).trans rfl;have hf2:w1.frozen? ⟨gm,0,none⟩=false:=blk_frozen HM1.out 0)
    go_ret
    have hne:=hX.out.2.1
    have HB2:=HB.out.trans (HB1.out.mono HB.out.size)
    refine ⟨rfl,⟨below_set HB2 hX.out.2.2.1,?_,?_,hX⟩,?_⟩
    · exact blk_far ((HB1.out.block gs (Array.getElem?_eq_some_iff.1 HCS.out).1).trans HCS.out) hne _
    · rw [HMS.out.trans (if_pos trivial)];exact blk_put HM1.out 0 _ rfl
    · exact grown_trans (below_grown gm HB1.out) ⟨rfl,rfl,rfl,by simp [World.setCell],fun i _ hi=>Below.heap_setCell _ _ _ _ (fun e=>hi (by rw [e]))⟩
theorem CountInv.start {w w1 w3:World} {A:Option Addr} {c gm:Nat} {set:List S60} (p:List Int → Bool) (hC:Kd.C k60 w A set.length set) (hc:set.length ≤ c)
    (h1:Below ((w.alloc (.cells #[.slice A set.length c] 22)).alloc (.cells #[.slice A set.length c] 22)).heap.size ((w.alloc (.cells #[.slice A set.length c] 22)).alloc (.cells #[.slice A set.length c] 22)) w1)
    (hg:gm=w1.heap.size) (h3:Below w1.heap.size w1 w3) (hb:w3.heap[gm]?=some (.cells #[.int .i64 0] 3 (0,0))):CountInv w p A c set w.heap.size gm (w3.setCell ⟨gm,0,none⟩ (.int .i64 0)) []:=by
  have hs:w.heap.size + 2 ≤ w1.heap.size:=by have:=h1.size;simpa using this
  have hB0:Below w.heap.size w ((w.alloc (.cells #[.slice A set.length c] 22)).alloc (.cells #[.slice A set.length c] 22)):=below_alloc (below_alloc (Below.refl _ _) _) _
  have hB3:Below w.heap.size w w3:=(hB0.trans (h1.mono (by simp;omega))).trans (h3.mono (by omega))
  have hgs:((w.alloc (.cells #[.slice A set.length c] 22)).alloc (.cells #[.slice A set.length c] 22)).heap[w.heap.size]?=some (.cells #[.slice A set.length c] 22 (0,0)):=(Below.heap_alloc _ _ _ (by simp)).trans (blk_new w _)
  refine ⟨below_set hB3 (by omega),blk_far (blk_below (blk_below hgs h1) h3) (by show w.heap.size ≠ gm;omega) _,?_,⟨⟨Nat.le_refl _,by omega,by omega,hC,hc⟩⟩⟩
  refine blk_put hb 0 _ ?_
  simp [manyOf,wrap64]
set_option maxHeartbeats 1000000 in
set_option maxRecDepth 100000 in
theorem count_Count.calls (k:Nat) (a0:Int) (A1:Option Addr) (c1:Nat) (l1:List S60) (a2:Int) (r1 r2:Int) (w:World) (hr1:Kd.C k60 w A1 l1.length l1) (hc1:l1.length ≤ c1) (h:count_Count.f k a0 l1 a2=some (r1,r2)) :
    Calls Try.prog 35 #[.int .i64 a0,.slice A1 l1.length c1,.int .i64 a2] w fun e w'=>e=.returned (.tuple #[.int .i64 r1,.int .i64 r2])∧Below w.heap.size w w':=by
  unfold count_Count.f at h
  obtain ⟨e0,he0,h⟩:=Option.bind_eq_some_iff.mp h
  have HR:=Aside0.mk hr1
  have HC:=Aside0.mk hc1
  have HBD:Aside0 (Calls Try.prog 77 #[.int .i64 a2,.int .i64 a0,.slice (some ⟨w.heap.size + 1,0,none⟩) 1 1] ((w.alloc (.cells #[.slice A1 l1.length c1] 22)).alloc (.cells #[.slice A1 l1.length c1] 22)) fun e w'=>e=.returned (.int .i64 e0)∧Below ((w.alloc (.cells #[.slice A1 l1.length c1] 22)).alloc (.cells #[.slice A1 l1.length c1] 22)).heap.size ((w.alloc (.cells #[.slice A1 l1.length c1] 22)).alloc (.cells #[.slice A1 l1.length c1] 22)) w') :=
    ⟨count_bounded.calls k a2 a0 (some ⟨w.heap.size + 1,0,none⟩) 1 [l1] e0 _ (C_one_row (by have:=blk_new (w.alloc (.cells #[.slice A1 l1.length c1] 22)) (.cells #[.slice A1 l1.length c1] 22);simpa using this) (Kd.C_alloc (Kd.C_alloc hr1 _) _) hc1) (Nat.le_refl _) he0⟩
  clear hr1 hc1 he0
  by_cases hz:e0=0
  · subst hz
    rw [if_pos rfl] at h
    split at h
    case isFalse=>cases h
    rename_i hd
    obtain ⟨m,hm,h⟩:=Option.bind_eq_some_iff.mp h
    obtain ⟨rfl,rfl⟩:=Prod.mk.inj (Option.some.inj h)
    obtain ⟨hD,hm2⟩:=count_Count.go_some k l1 _ m hm
    clear h hm
    have eg:∀ args w,(callFunc 79 args).run Try.prog w=.ok (.enter 79 args) w:=enters_of Try.func79 (by kernel_rfl) rfl
    have HV:Aside0 (∀ (gs gm:Nat) (W:World),gm < W.heap.size → CountInv w (fun v=>(count_has.f k l1 v).getD false) A1 c1 l1 gs gm W [] →
        Calls Try.prog 78 #[.int .i64 a0,.int .i64 a2,.slice none 0 0,.func (.func 79) #[] #[.pointer (some ⟨gs,0,none⟩),.pointer (some ⟨gm,0,none⟩)]] W fun e w'=>e=.returned (.bool true)∧w'.heap[gm]?=some (.cells #[.int .i64 (wrap64 m)] 3 (0,0))∧Below w.heap.size w w'):=⟨fun gs gm W h1 h2=>by
      have hcall:=count_vectors.calls 79 #[.pointer (some ⟨gs,0,none⟩),.pointer (some ⟨gm,0,none⟩)] gm (CountInv w (fun v=>(count_has.f k l1 v).getD false) A1 c1 l1 gs gm) (fun _=>true) (fun v=>(count_has.f k l1 v).isSome=true) eg (count_Count.tells k A1 c1 l1 gs gm w)
        (fun W W' vs hI hb=>⟨hI.1.trans (hb.mono hI.1.size),blk_below hI.2.1 hb,blk_below hI.2.2.1 hb,hI.2.2.2⟩) (a0 - 1).toNat a2.toNat [] none 0 [] W h1 h2 (Kd.F_nil _ _ _) (Nat.le_refl _) (by simp;omega) (by omega) hD
      rw [visit_true] at hcall
      have e1:(((a0 - 1).toNat:Nat):Int) + 1=a0:=by omega
      have e2:((a2.toNat:Nat):Int)=a2:=by omega
      rw [e1,e2] at hcall
      refine hcall.mono ?_
      rintro e w' ⟨rfl,h3,_⟩
      refine ⟨rfl,?_,h3.1⟩
      rw [hm2]
      exact h3.2.2.1⟩
    clear hD hm2 hd
    go_enter Try.func35,Try.ntmps35
    go_wp2_with (first
      | (go_at_call 77;(with_reducible refine HBD.out.mono ?_);rintro e w1 ⟨rfl,hb1⟩;have HB1:=Aside0.mk hb1;clear hb1)
      | ((with_reducible refine gate_dst (N:=9) rfl ?_);refine box_event ?hg (N:=9) ?hd (cs:=#[.int .i64 0]) (t:=3) ?hr ?_;(case hd=>rfl);(case hg=>rfl);(case hr=>first|(go_simp;done)|(go_simp;rfl));intro gm hg w3 hbox hb;have BK:=Aside0.mk hbox;have HB3:=Aside0.mk hb;have HG3:=Aside0.mk hg;have hcz:w3.cell? ⟨gm,0,none⟩=some (.int .i64 0):=(blk_cell hbox 0).trans rfl;have hfz:w3.frozen? ⟨gm,0,none⟩=false:=blk_frozen hbox 0;have HINV:=Aside0.mk (CountInv.start (fun v=>(count_has.f k l1 v).getD false) HR.out HC.out HB1.out hg hb hbox);clear hb hbox hg)
      | (go_at_call 78;(with_reducible refine (HV.out w.heap.size gm _ ?lt ?inv).mono ?_);(case lt=>exact (blk_lt (blk_put BK.out 0 (.int .i64 0) rfl)));(case inv=>exact HINV.out);rintro e w4 ⟨rfl,hm4,hb4⟩;have HM4:=Aside0.mk hm4;have HB4:=Aside0.mk hb4;have hcm4:w4.cell? ⟨gm,0,none⟩=some (.int .i64 (wrap64 m)):=(blk_cell hm4 0).trans rfl;clear hm4 hb4))
    go_ret2
    exact ⟨rfl,HB4.out⟩
  · rw [if_neg hz] at h
    obtain ⟨rfl,rfl⟩:=Prod.mk.inj (Option.some.inj h)
    have hn:(e0 != 0)=true:=bne_iff_ne.mpr hz
    clear h hz
    go_enter Try.func35,Try.ntmps35
    go_wp2_with (first
      | (go_at_call 77;(with_reducible refine HBD.out.mono ?_);rintro e w1 ⟨rfl,hb1⟩;have HB1:=Aside0.mk hb1;clear hb1))
    go_ret2
    exact ⟨rfl,(below_alloc (below_alloc (Below.refl _ _) _) _).trans (HB1.out.mono (by simp;omega))⟩
def bellpulllaw05_lives.f (k:Nat) :Option (Bool):=(some (([(⟨(([1,0]:List Int)),(([(([1,1]:List Int))]:List (List Int)))⟩:S60)]:List (S60)):List (S60))).bind fun y272=>((count_Has.f k 2 y272 (([3,2]:List Int))).bind fun bt278=>((count_Has.f k 2 y272 (([2,2]:List Int))).bind fun bt283=>((count_Count.f k 2 y272 3).bind fun bt285=>((count_Image.f k (⟨#[97,98,46,42]⟩:ByteArray)).bind fun bt287=>((count_Accepts.f k (⟨#[97,42,98,43]⟩:ByteArray) (([0,1,0]:List Int))).bind fun bt294=>((count_Accepts.f k (⟨#[97,42,98,43]⟩:ByteArray) (([1,1,0]:List Int))).bind fun bt299=>(if bt278.1=true then (if bt278.2=0 then (if bt283.1=true then (none) else (if bt283.2=0 then (if bt285.1=1 then (if bt285.2=0 then ((bellpullref05_Same.f k bt287.1 (([(⟨(([0,0,0]:List Int)),([]:List (List Int))⟩:S60),(⟨(([1,1,0]:List Int)),(([(([1,1,0]:List Int))]:List (List Int)))⟩:S60)]:List (S60)))).bind fun t316=>(if t316=true then (if bt287.2=0 then (if bt294.1=true then (if bt294.2=0 then (if bt299.1=true then (none) else (some (bt299.2 == 0))) else (none)) else (none)) else (none)) else (none))) else (none)) else (none)) else (none))) else (none)) else (none))))))))
theorem bellpulllaw05_lives.mono:∀ k,LeO (bellpulllaw05_lives.f k ) (bellpulllaw05_lives.f (k + 1) ):=by
  intro  k
  unfold bellpulllaw05_lives.f
  with_reducible repeat' first|exact bellpullref05_Same.mono _ _ _|exact count_Accepts.mono _ _ _|exact count_Count.mono _ _ _ _|exact count_Has.mono _ _ _ _|exact count_Image.mono _ _|exact LeO.refl _|exact LeO.none _|refine LeO.ite ?_ ?_|refine LeO.bind ?_ (fun _=>?_)
set_option maxHeartbeats 8000000 in
set_option maxRecDepth 100000 in
theorem bellpulllaw05_lives.calls (k:Nat)  (r:Bool) (w:World) (h:bellpulllaw05_lives.f k =some r) :
    Calls Try.prog 22 #[] w fun e w'=>e=.returned (.bool r)∧Below w.heap.size w w':=by
 have hu60:=Try.underlying60;have HB:=mk0 (Below.refl w.heap.size w);have H:((some (([(⟨(([1,0]:List Int)),(([(([1,1]:List Int))]:List (List Int)))⟩:S60)]:List (S60)):List (S60))).bind fun y272=>((count_Has.f k 2 y272 (([3,2]:List Int))).bind fun bt278=>((count_Has.f k 2 y272 (([2,2]:List Int))).bind fun bt283=>((count_Count.f k 2 y272 3).bind fun bt285=>((count_Image.f k (⟨#[97,98,46,42]⟩:ByteArray)).bind fun bt287=>((count_Accepts.f k (⟨#[97,42,98,43]⟩:ByteArray) (([0,1,0]:List Int))).bind fun bt294=>((count_Accepts.f k (⟨#[97,42,98,43]⟩:ByteArray) (([1,1,0]:List Int))).bind fun bt299=>(if bt278.1=true then (if bt278.2=0 then (if bt283.1=true then (none) else (if bt283.2=0 then (if bt285.1=1 then (if bt285.2=0 then ((bellpullref05_Same.f k bt287.1 (([(⟨(([0,0,0]:List Int)),([]:List (List Int))⟩:S60),(⟨(([1,1,0]:List Int)),(([(([1,1,0]:List Int))]:List (List Int)))⟩:S60)]:List (S60)))).bind fun t316=>(if t316=true then (if bt287.2=0 then (if bt294.1=true then (if bt294.2=0 then (if bt299.1=true then (none) else (some (bt299.2 == 0))) else (none)) else (none)) else (none)) else (none))) else (none)) else (none)) else (none))) else (none)) else (none)))))))))=some r:=h;clear h;obtain ⟨y263,hy263⟩:∃ y_:List Int,y_=(([1,0]:List Int)):=⟨_,rfl⟩
 replace H:((some (([(⟨y263,(([(([1,1]:List Int))]:List (List Int)))⟩:S60)]:List (S60)):List (S60))).bind fun y272=>((count_Has.f k 2 y272 (([3,2]:List Int))).bind fun bt278=>((count_Has.f k 2 y272 (([2,2]:List Int))).bind fun bt283=>((count_Count.f k 2 y272 3).bind fun bt285=>((count_Image.f k (⟨#[97,98,46,42]⟩:ByteArray)).bind fun bt287=>((count_Accepts.f k (⟨#[97,42,98,43]⟩:ByteArray) (([0,1,0]:List Int))).bind fun bt294=>((count_Accepts.f k (⟨#[97,42,98,43]⟩:ByteArray) (([1,1,0]:List Int))).bind fun bt299=>(if bt278.1=true then (if bt278.2=0 then (if bt283.1=true then (none) else (if bt283.2=0 then (if bt285.1=1 then (if bt285.2=0 then ((bellpullref05_Same.f k bt287.1 (([(⟨(([0,0,0]:List Int)),([]:List (List Int))⟩:S60),(⟨(([1,1,0]:List Int)),(([(([1,1,0]:List Int))]:List (List Int)))⟩:S60)]:List (S60)))).bind fun t316=>(if t316=true then (if bt287.2=0 then (if bt294.1=true then (if bt294.2=0 then (if bt299.1=true then (none) else (some (bt299.2 == 0))) else (none)) else (none)) else (none)) else (none))) else (none)) else (none)) else (none))) else (none)) else (none)))))))))=some r:=by first|(rw [hy263];with_reducible exact H)|(have H2_:=(Option.bind_some _ _).symm.trans H;rw [hy263];with_reducible exact H2_)|(have H2_:=(Option.bind_some _ _).symm.trans H;with_reducible exact H2_)|with_reducible exact H|(rw [hy263];exact H)|exact H
 have Ny263:=mk0 hy263;clear hy263;obtain ⟨y266,hy266⟩:∃ y_:List Int,y_=(([1,1]:List Int)):=⟨_,rfl⟩
 replace H:((some (([(⟨y263,(([y266]:List (List Int)))⟩:S60)]:List (S60)):List (S60))).bind fun y272=>((count_Has.f k 2 y272 (([3,2]:List Int))).bind fun bt278=>((count_Has.f k 2 y272 (([2,2]:List Int))).bind fun bt283=>((count_Count.f k 2 y272 3).bind fun bt285=>((count_Image.f k (⟨#[97,98,46,42]⟩:ByteArray)).bind fun bt287=>((count_Accepts.f k (⟨#[97,42,98,43]⟩:ByteArray) (([0,1,0]:List Int))).bind fun bt294=>((count_Accepts.f k (⟨#[97,42,98,43]⟩:ByteArray) (([1,1,0]:List Int))).bind fun bt299=>(if bt278.1=true then (if bt278.2=0 then (if bt283.1=true then (none) else (if bt283.2=0 then (if bt285.1=1 then (if bt285.2=0 then ((bellpullref05_Same.f k bt287.1 (([(⟨(([0,0,0]:List Int)),([]:List (List Int))⟩:S60),(⟨(([1,1,0]:List Int)),(([(([1,1,0]:List Int))]:List (List Int)))⟩:S60)]:List (S60)))).bind fun t316=>(if t316=true then (if bt287.2=0 then (if bt294.1=true then (if bt294.2=0 then (if bt299.1=true then (none) else (some (bt299.2 == 0))) else (none)) else (none)) else (none)) else (none))) else (none)) else (none)) else (none))) else (none)) else (none)))))))))=some r:=by first|(rw [hy266];with_reducible exact H)|(have H2_:=(Option.bind_some _ _).symm.trans H;rw [hy266];with_reducible exact H2_)|(have H2_:=(Option.bind_some _ _).symm.trans H;with_reducible exact H2_)|with_reducible exact H|(rw [hy266];exact H)|exact H
 have Ny266:=mk0 hy266;clear hy266;obtain ⟨y269,hy269⟩:∃ y_:List (List Int),y_=(([y266]:List (List Int))):=⟨_,rfl⟩
 replace H:((some (([(⟨y263,y269⟩:S60)]:List (S60)):List (S60))).bind fun y272=>((count_Has.f k 2 y272 (([3,2]:List Int))).bind fun bt278=>((count_Has.f k 2 y272 (([2,2]:List Int))).bind fun bt283=>((count_Count.f k 2 y272 3).bind fun bt285=>((count_Image.f k (⟨#[97,98,46,42]⟩:ByteArray)).bind fun bt287=>((count_Accepts.f k (⟨#[97,42,98,43]⟩:ByteArray) (([0,1,0]:List Int))).bind fun bt294=>((count_Accepts.f k (⟨#[97,42,98,43]⟩:ByteArray) (([1,1,0]:List Int))).bind fun bt299=>(if bt278.1=true then (if bt278.2=0 then (if bt283.1=true then (none) else (if bt283.2=0 then (if bt285.1=1 then (if bt285.2=0 then ((bellpullref05_Same.f k bt287.1 (([(⟨(([0,0,0]:List Int)),([]:List (List Int))⟩:S60),(⟨(([1,1,0]:List Int)),(([(([1,1,0]:List Int))]:List (List Int)))⟩:S60)]:List (S60)))).bind fun t316=>(if t316=true then (if bt287.2=0 then (if bt294.1=true then (if bt294.2=0 then (if bt299.1=true then (none) else (some (bt299.2 == 0))) else (none)) else (none)) else (none)) else (none))) else (none)) else (none)) else (none))) else (none)) else (none)))))))))=some r:=by first|(rw [hy269];with_reducible exact H)|(have H2_:=(Option.bind_some _ _).symm.trans H;rw [hy269];with_reducible exact H2_)|(have H2_:=(Option.bind_some _ _).symm.trans H;with_reducible exact H2_)|with_reducible exact H|(rw [hy269];exact H)|exact H
 have Ny269:=mk0 hy269;clear hy269;obtain ⟨y272,hy272⟩:∃ y_:List (S60),y_=(([(⟨y263,y269⟩:S60)]:List (S60))):=⟨_,rfl⟩
 replace H:((count_Has.f k 2 y272 (([3,2]:List Int))).bind fun bt278=>((count_Has.f k 2 y272 (([2,2]:List Int))).bind fun bt283=>((count_Count.f k 2 y272 3).bind fun bt285=>((count_Image.f k (⟨#[97,98,46,42]⟩:ByteArray)).bind fun bt287=>((count_Accepts.f k (⟨#[97,42,98,43]⟩:ByteArray) (([0,1,0]:List Int))).bind fun bt294=>((count_Accepts.f k (⟨#[97,42,98,43]⟩:ByteArray) (([1,1,0]:List Int))).bind fun bt299=>(if bt278.1=true then (if bt278.2=0 then (if bt283.1=true then (none) else (if bt283.2=0 then (if bt285.1=1 then (if bt285.2=0 then ((bellpullref05_Same.f k bt287.1 (([(⟨(([0,0,0]:List Int)),([]:List (List Int))⟩:S60),(⟨(([1,1,0]:List Int)),(([(([1,1,0]:List Int))]:List (List Int)))⟩:S60)]:List (S60)))).bind fun t316=>(if t316=true then (if bt287.2=0 then (if bt294.1=true then (if bt294.2=0 then (if bt299.1=true then (none) else (some (bt299.2 == 0))) else (none)) else (none)) else (none)) else (none))) else (none)) else (none)) else (none))) else (none)) else (none))))))))=some r:=by first|(rw [hy272];with_reducible exact H)|(have H2_:=(Option.bind_some _ _).symm.trans H;rw [hy272];with_reducible exact H2_)|(have H2_:=(Option.bind_some _ _).symm.trans H;with_reducible exact H2_)|with_reducible exact H|(rw [hy272];exact H)|exact H
 have Ny272:=mk0 hy272;clear hy272;obtain ⟨y275,hy275⟩:∃ y_:List Int,y_=(([3,2]:List Int)):=⟨_,rfl⟩
 replace H:((count_Has.f k 2 y272 y275).bind fun bt278=>((count_Has.f k 2 y272 (([2,2]:List Int))).bind fun bt283=>((count_Count.f k 2 y272 3).bind fun bt285=>((count_Image.f k (⟨#[97,98,46,42]⟩:ByteArray)).bind fun bt287=>((count_Accepts.f k (⟨#[97,42,98,43]⟩:ByteArray) (([0,1,0]:List Int))).bind fun bt294=>((count_Accepts.f k (⟨#[97,42,98,43]⟩:ByteArray) (([1,1,0]:List Int))).bind fun bt299=>(if bt278.1=true then (if bt278.2=0 then (if bt283.1=true then (none) else (if bt283.2=0 then (if bt285.1=1 then (if bt285.2=0 then ((bellpullref05_Same.f k bt287.1 (([(⟨(([0,0,0]:List Int)),([]:List (List Int))⟩:S60),(⟨(([1,1,0]:List Int)),(([(([1,1,0]:List Int))]:List (List Int)))⟩:S60)]:List (S60)))).bind fun t316=>(if t316=true then (if bt287.2=0 then (if bt294.1=true then (if bt294.2=0 then (if bt299.1=true then (none) else (some (bt299.2 == 0))) else (none)) else (none)) else (none)) else (none))) else (none)) else (none)) else (none))) else (none)) else (none))))))))=some r:=by first|(rw [hy275];with_reducible exact H)|(have H2_:=(Option.bind_some _ _).symm.trans H;rw [hy275];with_reducible exact H2_)|(have H2_:=(Option.bind_some _ _).symm.trans H;with_reducible exact H2_)|with_reducible exact H|(rw [hy275];exact H)|exact H
 have Ny275:=mk0 hy275;clear hy275;replace H:=Option.bind_eq_some_iff.mp H;obtain ⟨⟨t278,t279⟩,A10,H⟩:=H;(try dsimp only at H);have A1:=mk0 A10;clear A10;obtain ⟨y280,hy280⟩:∃ y_:List Int,y_=(([2,2]:List Int)):=⟨_,rfl⟩
 replace H:((count_Has.f k 2 y272 y280).bind fun bt283=>((count_Count.f k 2 y272 3).bind fun bt285=>((count_Image.f k (⟨#[97,98,46,42]⟩:ByteArray)).bind fun bt287=>((count_Accepts.f k (⟨#[97,42,98,43]⟩:ByteArray) (([0,1,0]:List Int))).bind fun bt294=>((count_Accepts.f k (⟨#[97,42,98,43]⟩:ByteArray) (([1,1,0]:List Int))).bind fun bt299=>(if t278=true then (if t279=0 then (if bt283.1=true then (none) else (if bt283.2=0 then (if bt285.1=1 then (if bt285.2=0 then ((bellpullref05_Same.f k bt287.1 (([(⟨(([0,0,0]:List Int)),([]:List (List Int))⟩:S60),(⟨(([1,1,0]:List Int)),(([(([1,1,0]:List Int))]:List (List Int)))⟩:S60)]:List (S60)))).bind fun t316=>(if t316=true then (if bt287.2=0 then (if bt294.1=true then (if bt294.2=0 then (if bt299.1=true then (none) else (some (bt299.2 == 0))) else (none)) else (none)) else (none)) else (none))) else (none)) else (none)) else (none))) else (none)) else (none)))))))=some r:=by first|(rw [hy280];with_reducible exact H)|(have H2_:=(Option.bind_some _ _).symm.trans H;rw [hy280];with_reducible exact H2_)|(have H2_:=(Option.bind_some _ _).symm.trans H;with_reducible exact H2_)|with_reducible exact H|(rw [hy280];exact H)|exact H
 have Ny280:=mk0 hy280;clear hy280;replace H:=Option.bind_eq_some_iff.mp H;obtain ⟨⟨t283,t284⟩,A20,H⟩:=H;(try dsimp only at H);have A2:=mk0 A20;clear A20;replace H:=Option.bind_eq_some_iff.mp H;obtain ⟨⟨t285,t286⟩,A30,H⟩:=H;(try dsimp only at H);have A3:=mk0 A30;clear A30;replace H:=Option.bind_eq_some_iff.mp H;obtain ⟨⟨t287,t290⟩,A40,H⟩:=H;(try dsimp only at H);have A4:=mk0 A40;clear A40;obtain ⟨y291,hy291⟩:∃ y_:List Int,y_=(([0,1,0]:List Int)):=⟨_,rfl⟩
 replace H:((count_Accepts.f k (⟨#[97,42,98,43]⟩:ByteArray) y291).bind fun bt294=>((count_Accepts.f k (⟨#[97,42,98,43]⟩:ByteArray) (([1,1,0]:List Int))).bind fun bt299=>(if t278=true then (if t279=0 then (if t283=true then (none) else (if t284=0 then (if t285=1 then (if t286=0 then ((bellpullref05_Same.f k t287 (([(⟨(([0,0,0]:List Int)),([]:List (List Int))⟩:S60),(⟨(([1,1,0]:List Int)),(([(([1,1,0]:List Int))]:List (List Int)))⟩:S60)]:List (S60)))).bind fun t316=>(if t316=true then (if t290=0 then (if bt294.1=true then (if bt294.2=0 then (if bt299.1=true then (none) else (some (bt299.2 == 0))) else (none)) else (none)) else (none)) else (none))) else (none)) else (none)) else (none))) else (none)) else (none))))=some r:=by first|(rw [hy291];with_reducible exact H)|(have H2_:=(Option.bind_some _ _).symm.trans H;rw [hy291];with_reducible exact H2_)|(have H2_:=(Option.bind_some _ _).symm.trans H;with_reducible exact H2_)|with_reducible exact H|(rw [hy291];exact H)|exact H
 have Ny291:=mk0 hy291;clear hy291;replace H:=Option.bind_eq_some_iff.mp H;obtain ⟨⟨t294,t295⟩,A50,H⟩:=H;(try dsimp only at H);have A5:=mk0 A50;clear A50;obtain ⟨y296,hy296⟩:∃ y_:List Int,y_=(([1,1,0]:List Int)):=⟨_,rfl⟩
 replace H:((count_Accepts.f k (⟨#[97,42,98,43]⟩:ByteArray) y296).bind fun bt299=>(if t278=true then (if t279=0 then (if t283=true then (none) else (if t284=0 then (if t285=1 then (if t286=0 then ((bellpullref05_Same.f k t287 (([(⟨(([0,0,0]:List Int)),([]:List (List Int))⟩:S60),(⟨(([1,1,0]:List Int)),(([(([1,1,0]:List Int))]:List (List Int)))⟩:S60)]:List (S60)))).bind fun t316=>(if t316=true then (if t290=0 then (if t294=true then (if t295=0 then (if bt299.1=true then (none) else (some (bt299.2 == 0))) else (none)) else (none)) else (none)) else (none))) else (none)) else (none)) else (none))) else (none)) else (none)))=some r:=by first|(rw [hy296];with_reducible exact H)|(have H2_:=(Option.bind_some _ _).symm.trans H;rw [hy296];with_reducible exact H2_)|(have H2_:=(Option.bind_some _ _).symm.trans H;with_reducible exact H2_)|with_reducible exact H|(rw [hy296];exact H)|exact H
 have Ny296:=mk0 hy296;clear hy296;replace H:=Option.bind_eq_some_iff.mp H;obtain ⟨⟨t299,t300⟩,A60,H⟩:=H;(try dsimp only at H);have A6:=mk0 A60;clear A60
 by_cases c7:t278=true
 ·
  subst c7;have H1:(if t279=0 then (if t283=true then (none) else (if t284=0 then (if t285=1 then (if t286=0 then ((bellpullref05_Same.f k t287 (([(⟨(([0,0,0]:List Int)),([]:List (List Int))⟩:S60),(⟨(([1,1,0]:List Int)),(([(([1,1,0]:List Int))]:List (List Int)))⟩:S60)]:List (S60)))).bind fun t316=>(if t316=true then (if t290=0 then (if t294=true then (if t295=0 then (if t299=true then (none) else (some (t300 == 0))) else (none)) else (none)) else (none)) else (none))) else (none)) else (none)) else (none))) else (none))=some r:=by rw [if_pos rfl] at H;exact H
  clear H;have H:=H1;clear H1
  by_cases c8:t279=0
  ·
   rw [if_pos c8] at H;have c8b0:(t279 == 0)=true:=beq_iff_eq.mpr c8;have c8b1:(t279 != 0)=false:=bne_eq_false_iff_eq.mpr c8;clear c8
   by_cases c9:t283=true
   ·
    subst c9;have H1:(none)=some r:=by rw [if_pos rfl] at H;exact H
    clear H;have H:=H1;clear H1;exact absurd H (by simp)
   ·
    replace c9:=Bool.eq_false_iff.mpr c9;subst c9;have H1:(if t284=0 then (if t285=1 then (if t286=0 then ((bellpullref05_Same.f k t287 (([(⟨(([0,0,0]:List Int)),([]:List (List Int))⟩:S60),(⟨(([1,1,0]:List Int)),(([(([1,1,0]:List Int))]:List (List Int)))⟩:S60)]:List (S60)))).bind fun t316=>(if t316=true then (if t290=0 then (if t294=true then (if t295=0 then (if t299=true then (none) else (some (t300 == 0))) else (none)) else (none)) else (none)) else (none))) else (none)) else (none)) else (none))=some r:=by rw [if_neg (show ¬ (false=true) by decide)] at H;exact H
    clear H;have H:=H1;clear H1
    by_cases c10:t284=0
    ·
     rw [if_pos c10] at H;have c10b0:(t284 == 0)=true:=beq_iff_eq.mpr c10;have c10b1:(t284 != 0)=false:=bne_eq_false_iff_eq.mpr c10;clear c10
     by_cases c11:t285=1
     ·
      rw [if_pos c11] at H;have c11b0:(t285 == 1)=true:=beq_iff_eq.mpr c11;have c11b1:(t285 != 1)=false:=bne_eq_false_iff_eq.mpr c11;clear c11
      by_cases c12:t286=0
      ·
       rw [if_pos c12] at H;have c12b0:(t286 == 0)=true:=beq_iff_eq.mpr c12;have c12b1:(t286 != 0)=false:=bne_eq_false_iff_eq.mpr c12;clear c12;obtain ⟨y301,hy301⟩:∃ y_:List Int,y_=(([0,0,0]:List Int)):=⟨_,rfl⟩
       replace H:((bellpullref05_Same.f k t287 (([(⟨y301,([]:List (List Int))⟩:S60),(⟨(([1,1,0]:List Int)),(([(([1,1,0]:List Int))]:List (List Int)))⟩:S60)]:List (S60)))).bind fun t316=>(if t316=true then (if t290=0 then (if t294=true then (if t295=0 then (if t299=true then (none) else (some (t300 == 0))) else (none)) else (none)) else (none)) else (none)))=some r:=by first|(rw [hy301];with_reducible exact H)|(have H2_:=(Option.bind_some _ _).symm.trans H;rw [hy301];with_reducible exact H2_)|(have H2_:=(Option.bind_some _ _).symm.trans H;with_reducible exact H2_)|with_reducible exact H|(rw [hy301];exact H)|exact H
       have Ny301:=mk0 hy301;clear hy301;obtain ⟨y304,hy304⟩:∃ y_:List Int,y_=(([1,1,0]:List Int)):=⟨_,rfl⟩
       replace H:((bellpullref05_Same.f k t287 (([(⟨y301,([]:List (List Int))⟩:S60),(⟨y304,(([(([1,1,0]:List Int))]:List (List Int)))⟩:S60)]:List (S60)))).bind fun t316=>(if t316=true then (if t290=0 then (if t294=true then (if t295=0 then (if t299=true then (none) else (some (t300 == 0))) else (none)) else (none)) else (none)) else (none)))=some r:=by first|(rw [hy304];with_reducible exact H)|(have H2_:=(Option.bind_some _ _).symm.trans H;rw [hy304];with_reducible exact H2_)|(have H2_:=(Option.bind_some _ _).symm.trans H;with_reducible exact H2_)|with_reducible exact H|(rw [hy304];exact H)|exact H
       have Ny304:=mk0 hy304;clear hy304;obtain ⟨y307,hy307⟩:∃ y_:List Int,y_=(([1,1,0]:List Int)):=⟨_,rfl⟩
       replace H:((bellpullref05_Same.f k t287 (([(⟨y301,([]:List (List Int))⟩:S60),(⟨y304,(([y307]:List (List Int)))⟩:S60)]:List (S60)))).bind fun t316=>(if t316=true then (if t290=0 then (if t294=true then (if t295=0 then (if t299=true then (none) else (some (t300 == 0))) else (none)) else (none)) else (none)) else (none)))=some r:=by first|(rw [hy307];with_reducible exact H)|(have H2_:=(Option.bind_some _ _).symm.trans H;rw [hy307];with_reducible exact H2_)|(have H2_:=(Option.bind_some _ _).symm.trans H;with_reducible exact H2_)|with_reducible exact H|(rw [hy307];exact H)|exact H
       have Ny307:=mk0 hy307;clear hy307;obtain ⟨y310,hy310⟩:∃ y_:List (List Int),y_=(([y307]:List (List Int))):=⟨_,rfl⟩
       replace H:((bellpullref05_Same.f k t287 (([(⟨y301,([]:List (List Int))⟩:S60),(⟨y304,y310⟩:S60)]:List (S60)))).bind fun t316=>(if t316=true then (if t290=0 then (if t294=true then (if t295=0 then (if t299=true then (none) else (some (t300 == 0))) else (none)) else (none)) else (none)) else (none)))=some r:=by first|(rw [hy310];with_reducible exact H)|(have H2_:=(Option.bind_some _ _).symm.trans H;rw [hy310];with_reducible exact H2_)|(have H2_:=(Option.bind_some _ _).symm.trans H;with_reducible exact H2_)|with_reducible exact H|(rw [hy310];exact H)|exact H
       have Ny310:=mk0 hy310;clear hy310;obtain ⟨y313,hy313⟩:∃ y_:List (S60),y_=(([(⟨y301,([]:List (List Int))⟩:S60),(⟨y304,y310⟩:S60)]:List (S60))):=⟨_,rfl⟩
       replace H:((bellpullref05_Same.f k t287 y313).bind fun t316=>(if t316=true then (if t290=0 then (if t294=true then (if t295=0 then (if t299=true then (none) else (some (t300 == 0))) else (none)) else (none)) else (none)) else (none)))=some r:=by first|(rw [hy313];with_reducible exact H)|(have H2_:=(Option.bind_some _ _).symm.trans H;rw [hy313];with_reducible exact H2_)|(have H2_:=(Option.bind_some _ _).symm.trans H;with_reducible exact H2_)|with_reducible exact H|(rw [hy313];exact H)|exact H
       have Ny313:=mk0 hy313;clear hy313;replace H:=Option.bind_eq_some_iff.mp H;obtain ⟨t316,A130,H⟩:=H;(try dsimp only at H);have A13:=mk0 A130;clear A130
       by_cases c14:t316=true
       ·
        subst c14;have H1:(if t290=0 then (if t294=true then (if t295=0 then (if t299=true then (none) else (some (t300 == 0))) else (none)) else (none)) else (none))=some r:=by rw [if_pos rfl] at H;exact H
        clear H;have H:=H1;clear H1
        by_cases c15:t290=0
        ·
         rw [if_pos c15] at H;have c15b0:(t290 == 0)=true:=beq_iff_eq.mpr c15;have c15b1:(t290 != 0)=false:=bne_eq_false_iff_eq.mpr c15;clear c15
         by_cases c16:t294=true
         ·
          subst c16;have H1:(if t295=0 then (if t299=true then (none) else (some (t300 == 0))) else (none))=some r:=by rw [if_pos rfl] at H;exact H
          clear H;have H:=H1;clear H1
          by_cases c17:t295=0
          ·
           rw [if_pos c17] at H;have c17b0:(t295 == 0)=true:=beq_iff_eq.mpr c17;have c17b1:(t295 != 0)=false:=bne_eq_false_iff_eq.mpr c17;clear c17
           by_cases c18:t299=true
           ·
            subst c18;have H1:(none)=some r:=by rw [if_pos rfl] at H;exact H
            clear H;have H:=H1;clear H1;exact absurd H (by simp)
           ·
            replace c18:=Bool.eq_false_iff.mpr c18;subst c18;have H1:(some (t300 == 0))=some r:=by rw [if_neg (show ¬ (false=true) by decide)] at H;exact H
            clear H;have H:=H1;clear H1;obtain rfl:=Option.some.inj H;go_enter Try.func22,Try.ntmps22;go_wp2_with (first|((with_reducible refine gate_dst (N:=14) rfl ?_);(try (refine gate_guard (by rfl) ?_;dsimp only));refine Kd.R_lit (Kd.int .i64) _ 3 ?hg (N:=14) ?hd (xs:=([1,0]:List Int)) (inner:=[.int .i64 1,.int .i64 0]) (ok:=fun _=>True) (okp:=fun _=>True) ?hr ?hp (fun _ hk=>hk) trivial (Below.refl _ _) (Nat.le_refl _) (by simp) ?_;(case hd=>rfl);(case hg=>rfl);(case hr=>first|(go_simp;done)|(go_simp;rfl));(case hp=>exact (Reps.one (show Kd.M (Kd.int .i64) _ _ _ 1 [.int .i64 1] from rfl) (Reps.one (show Kd.M (Kd.int .i64) _ _ _ 0 [.int .i64 0] from rfl) (Reps.none _ _))));intro v264 w19 ho20 hb hg_ hnew_;clear hg_ hnew_;(first|rw [← Ny263.out] at ho20|(simp only [Int.reduceToNat] at ho20;rw [← Ny263.out] at ho20));have HO265:=mk0 (Kd.R_lower ho20 (below_size HB.out));replace HB:=bst HB hb;clear hb ho20)|((with_reducible refine gate_dst (N:=15) rfl ?_);(try (refine gate_guard (by rfl) ?_;dsimp only));refine Kd.R_lit (Kd.int .i64) _ 3 ?hg (N:=15) ?hd (xs:=([1,1]:List Int)) (inner:=[.int .i64 1,.int .i64 1]) (ok:=fun _=>True) (okp:=fun _=>True) ?hr ?hp (fun _ hk=>hk) trivial (Below.refl _ _) (Nat.le_refl _) (by simp) ?_;(case hd=>rfl);(case hg=>rfl);(case hr=>first|(go_simp;done)|(go_simp;rfl));(case hp=>exact (Reps.one (show Kd.M (Kd.int .i64) _ _ _ 1 [.int .i64 1] from rfl) (Reps.one (show Kd.M (Kd.int .i64) _ _ _ 1 [.int .i64 1] from rfl) (Reps.none _ _))));intro v267 w21 ho22 hb hg_ hnew_;clear hg_ hnew_;(first|rw [← Ny266.out] at ho22|(simp only [Int.reduceToNat] at ho22;rw [← Ny266.out] at ho22));have HO268:=mk0 (Kd.R_lower (Kd.R_new' ho22 (Kd.R_lt HO265.out)) (below_size HB.out));replace HO265:=mk0 (Kd.R_elder' HO265.out (Kd.R_base ho22) hb);replace HB:=bst HB hb;clear hb ho22;obtain ⟨Ao23,co23,eo23⟩:=Kd.R_slice HO268.out;subst eo23)|((with_reducible refine gate_dst (N:=16) rfl ?_);(try (refine gate_guard (by rfl) ?_;dsimp only));refine Kd.N_lit (Kd.slice 3 (Kd.int .i64)) _ 23 ?hg (N':=16) ?hd (xs:=([y266]:List (List Int))) (inner:=[.slice Ao23 y266.length co23]) (ok:=(fun k_=>some k_ ≠ (v264:Value).ownBlock)) (okp:=(fun k_=>some k_ ≠ (v264:Value).ownBlock)) ?hr ?hp (fun _ hk=>hk) ((show ∀ k_,w21.heap.size ≤ k_ → (fun k_=>some k_ ≠ (v264:Value).ownBlock) k_ from fun k_ hk=>Kd.fresh' (Kd.R_lt HO265.out) k_ hk) _ (Nat.le_refl _)) (Below.refl _ _) (Nat.le_refl _) (by simp) ?_;(case hd=>rfl);(case hg=>rfl);(case hr=>first|(go_simp;done)|(go_simp;rfl));(case hp=>exact (Reps.one (show Kd.FK (Kd.slice 3 (Kd.int .i64)) _ _ y266 [.slice Ao23 y266.length co23] from (Kd.FK_slice_mk (Kd.R_reads' (Kd.R_mono (ok':=(fun k_=>some k_ ≠ (v264:Value).ownBlock)) (HO268.out) (fun k_ hk=>hk.2))).2.1 (Kd.R_F (Kd.R_mono (ok':=(fun k_=>some k_ ≠ (v264:Value).ownBlock)) (HO268.out) (fun k_ hk=>hk.2))))) (Reps.none _ _)));intro v270 w24 ho25 hb hg_ hnew_;clear hg_ hnew_;(first|rw [← Ny269.out] at ho25|(simp only [Int.reduceToNat] at ho25;rw [← Ny269.out] at ho25));have HO271:=mk0 (Kd.N_lower ho25 (below_size HB.out));replace HO265:=rbl HO265 hb;replace HB:=bst HB hb;clear HO268;clear hb ho25;obtain ⟨Ao26,co26,eo26⟩:=Kd.N_slice HO271.out;subst eo26;obtain ⟨Ao27,co27,eo27⟩:=Kd.R_slice HO265.out;subst eo27)|((with_reducible refine gate_dst (N:=18) rfl ?_);(try (refine gate_guard (by rfl) ?_;dsimp only));refine Kd.N_lit k60 _ 60 ?hg (N':=18) ?hd (xs:=([(⟨y263,y269⟩:S60)]:List (S60))) (inner:=[.slice Ao27 y263.length co27,.slice Ao26 y269.length co26]) (ok:=(fun _=>True)) (okp:=(fun _=>True)) ?hr ?hp (fun _ hk=>hk) ((show ∀ k_,w24.heap.size ≤ k_ → (fun _=>True) k_ from fun k_ hk=>trivial) _ (Nat.le_refl _)) (Below.refl _ _) (Nat.le_refl _) (by simp) ?_;(case hd=>rfl);(case hg=>rfl);(case hr=>first|(go_simp;done)|(go_simp;rfl));(case hp=>exact (Reps.c2 (show Kd.FK k60 _ _ (⟨y263,y269⟩:S60) [.slice Ao27 y263.length co27,.slice Ao26 y269.length co26] from (k60_mkF _ _ (⟨y263,y269⟩:S60) (Kd.R_reads' (Kd.R_mono (ok':=(fun _=>True)) (HO265.out) (fun k_ hk=>trivial))).2.1 (Kd.R_F (Kd.R_mono (ok':=(fun _=>True)) (HO265.out) (fun k_ hk=>trivial))) (Kd.N_reads' (Kd.N_mono (ok':=(fun _=>True)) (HO271.out) (fun k_ hk=>trivial))).2.1 (Kd.N_F (Kd.N_mono (ok':=(fun _=>True)) (HO271.out) (fun k_ hk=>trivial))))) (Reps.none _ _)));intro v273 w28 ho29 hb hg_ hnew_;clear hg_ hnew_;(first|rw [← Ny272.out] at ho29|(simp only [Int.reduceToNat] at ho29;rw [← Ny272.out] at ho29));have HO274:=mk0 (Kd.N_lower ho29 (below_size HB.out));replace HB:=bst HB hb;clear HO265;clear HO271;clear hb ho29)|((with_reducible refine gate_dst (N:=21) rfl ?_);(try (refine gate_guard (by rfl) ?_;dsimp only));refine Kd.R_lit (Kd.int .i64) _ 3 ?hg (N:=21) ?hd (xs:=([3,2]:List Int)) (inner:=[.int .i64 3,.int .i64 2]) (ok:=fun _=>True) (okp:=fun _=>True) ?hr ?hp (fun _ hk=>hk) trivial (Below.refl _ _) (Nat.le_refl _) (by simp) ?_;(case hd=>rfl);(case hg=>rfl);(case hr=>first|(go_simp;done)|(go_simp;rfl));(case hp=>exact (Reps.one (show Kd.M (Kd.int .i64) _ _ _ 3 [.int .i64 3] from rfl) (Reps.one (show Kd.M (Kd.int .i64) _ _ _ 2 [.int .i64 2] from rfl) (Reps.none _ _))));intro v276 w30 ho31 hb hg_ hnew_;clear hg_ hnew_;(first|rw [← Ny275.out] at ho31|(simp only [Int.reduceToNat] at ho31;rw [← Ny275.out] at ho31));have HO277:=mk0 (Kd.R_lower ho31 (below_size HB.out));replace HO274:=mk0 (Kd.N_elder' HO274.out (Kd.R_base ho31) hb);replace HB:=bst HB hb;clear hb ho31;obtain ⟨Ao32,co32,eo32⟩:=Kd.N_slice HO274.out;subst eo32;obtain ⟨Ao33,co33,eo33⟩:=Kd.R_slice HO277.out;subst eo33)|((with_reducible refine gate_callee (f:=23) rfl ?_);refine goesL_ (some 22) rfl rfl Try.func23 (by kernel_rfl) rfl #[.int .i64 2,.slice Ao32 y272.length co32,.slice Ao33 y275.length co33] rfl (by (try simp only [List.map_toArray,List.map_cons,List.map_nil]);first|done|rfl|(simp only [List.length_drop,List.length_take];rfl)) ?_;(with_reducible refine (count_Has.calls k 2 (fun k_=>(True∧some k_ ≠ (.slice Ao33 y275.length co33:Value).ownBlock)) _ _ y272 _ _ y275 true t279 _ ?side1 ?side2 ?side3 A1.out).mono ?_);(case side1=>exact Kd.N_V (HO274.out));(case side2=>repeat (first|exact (Kd.R_reads' HO277.out).2.2|(with_reducible refine Kd.C_alloc ?_ _)|(with_reducible refine Kd.C_drewN ?_ _)|(with_reducible refine Kd.C_drew ?_)));(case side3=>exact (Kd.R_reads' HO277.out).2.1);rintro e w34 ⟨rfl,hb⟩;refine ⟨_,rfl,?_⟩;replace HO274:=mk0 (Kd.N_below HO274.out hb);replace HO277:=rbl HO277 hb;replace HB:=bst HB hb;(try clear hb);(try clear hk))|((with_reducible refine gate_dst (N:=27) rfl ?_);(try (refine gate_guard (by rfl) ?_;dsimp only));refine Kd.R_lit (Kd.int .i64) _ 3 ?hg (N:=27) ?hd (xs:=([2,2]:List Int)) (inner:=[.int .i64 2,.int .i64 2]) (ok:=fun _=>True) (okp:=fun _=>True) ?hr ?hp (fun _ hk=>hk) trivial (Below.refl _ _) (Nat.le_refl _) (by simp) ?_;(case hd=>rfl);(case hg=>rfl);(case hr=>first|(go_simp;done)|(go_simp;rfl));(case hp=>exact (Reps.one (show Kd.M (Kd.int .i64) _ _ _ 2 [.int .i64 2] from rfl) (Reps.one (show Kd.M (Kd.int .i64) _ _ _ 2 [.int .i64 2] from rfl) (Reps.none _ _))));intro v281 w35 ho36 hb hg_ hnew_;clear hg_ hnew_;(first|rw [← Ny280.out] at ho36|(simp only [Int.reduceToNat] at ho36;rw [← Ny280.out] at ho36));have HO282:=mk0 (Kd.R_lower (Kd.R_new' ho36 (Kd.R_lt HO277.out)) (below_size HB.out));replace HO274:=mk0 (Kd.N_elder' HO274.out (Kd.R_base ho36) hb);replace HO277:=mk0 (Kd.R_elder' HO277.out (Kd.R_base ho36) hb);replace HB:=bst HB hb;clear hb ho36;obtain ⟨Ao37,co37,eo37⟩:=Kd.R_slice HO282.out;subst eo37)|((with_reducible refine gate_callee (f:=23) rfl ?_);refine goesL_ (some 28) rfl rfl Try.func23 (by kernel_rfl) rfl #[.int .i64 2,.slice Ao32 y272.length co32,.slice Ao37 y280.length co37] rfl (by (try simp only [List.map_toArray,List.map_cons,List.map_nil]);first|done|rfl|(simp only [List.length_drop,List.length_take];rfl)) ?_;(with_reducible refine (count_Has.calls k 2 (fun k_=>((True∧some k_ ≠ (.slice Ao33 y275.length co33:Value).ownBlock)∧some k_ ≠ (.slice Ao37 y280.length co37:Value).ownBlock)) _ _ y272 _ _ y280 false t284 _ ?side1 ?side2 ?side3 A2.out).mono ?_);(case side1=>exact Kd.N_V (HO274.out));(case side2=>repeat (first|exact (Kd.R_reads' HO282.out).2.2|(with_reducible refine Kd.C_alloc ?_ _)|(with_reducible refine Kd.C_drewN ?_ _)|(with_reducible refine Kd.C_drew ?_)));(case side3=>exact (Kd.R_reads' HO282.out).2.1);rintro e w38 ⟨rfl,hb⟩;refine ⟨_,rfl,?_⟩;replace HO274:=mk0 (Kd.N_below HO274.out hb);replace HO277:=rbl HO277 hb;replace HO282:=rbl HO282 hb;replace HB:=bst HB hb;(try clear hb);(try clear hk))|((with_reducible refine gate_callee (f:=35) rfl ?_);refine goesL_ (some 33) rfl rfl Try.func35 (by kernel_rfl) rfl #[.int .i64 2,.slice Ao32 y272.length co32,.int .i64 3] rfl (by (try simp only [List.map_toArray,List.map_cons,List.map_nil]);first|done|rfl|(simp only [List.length_drop,List.length_take];rfl)) ?_;(with_reducible refine (count_Count.calls k 2 _ _ y272 3 t285 t286 _ ?side1 ?side2 A3.out).mono ?_);(case side1=>repeat (first|exact (Kd.N_reads' HO274.out).2.2|(with_reducible refine Kd.C_alloc ?_ _)|(with_reducible refine Kd.C_drewN ?_ _)|(with_reducible refine Kd.C_drew ?_)));(case side2=>exact (Kd.N_reads' HO274.out).2.1);rintro e w39 ⟨rfl,hb⟩;refine ⟨_,rfl,?_⟩;replace HO274:=mk0 (Kd.N_below HO274.out hb);replace HO277:=rbl HO277 hb;replace HO282:=rbl HO282 hb;replace HB:=bst HB hb;(try clear hb);(try clear hk))|((with_reducible refine gate_callee (f:=29) rfl ?_);refine goesL_ (some 37) rfl rfl Try.func29 (by kernel_rfl) rfl #[.string (⟨#[97,98,46,42]⟩:ByteArray)] rfl (by (try simp only [List.map_toArray,List.map_cons,List.map_nil]);first|done|rfl|(simp only [List.length_drop,List.length_take];rfl)) ?_;(with_reducible refine (count_Image.calls k (⟨#[97,98,46,42]⟩:ByteArray) t287 t290 _ A4.out).mono ?_);rintro e w40 ⟨v288,rfl,ho0,hb⟩;refine ⟨_,rfl,?_⟩;have HO289:=mk0 (Kd.V_lower (Kd.V_mono (ok':=fun k_=>some k_ ≠ (.slice Ao32 y272.length co32:Value).ownBlock∧some k_ ≠ (.slice Ao33 y275.length co33:Value).ownBlock∧some k_ ≠ (.slice Ao37 y280.length co37:Value).ownBlock) ho0 (fun k_ hk_=>⟨(Kd.fresh' (Kd.N_lt HO274.out) k_ hk_),(Kd.fresh' (Kd.R_lt HO277.out) k_ hk_),(Kd.fresh' (Kd.R_lt HO282.out) k_ hk_)⟩)) (below_size HB.out));replace HO274:=mk0 (Kd.N_below HO274.out hb);replace HO277:=rbl HO277 hb;replace HO282:=rbl HO282 hb;replace HB:=bst HB hb;(try clear hb);(try clear hk);(try clear ho0))|((with_reducible refine gate_dst (N:=41) rfl ?_);(try (refine gate_guard (by rfl) ?_;dsimp only));refine Kd.R_lit (Kd.int .i64) _ 3 ?hg (N:=41) ?hd (xs:=([0,1,0]:List Int)) (inner:=[.int .i64 0,.int .i64 1,.int .i64 0]) (ok:=fun _=>True) (okp:=fun _=>True) ?hr ?hp (fun _ hk=>hk) trivial (Below.refl _ _) (Nat.le_refl _) (by simp) ?_;(case hd=>rfl);(case hg=>rfl);(case hr=>first|(go_simp;done)|(go_simp;rfl));(case hp=>exact (Reps.one (show Kd.M (Kd.int .i64) _ _ _ 0 [.int .i64 0] from rfl) (Reps.one (show Kd.M (Kd.int .i64) _ _ _ 1 [.int .i64 1] from rfl) (Reps.one (show Kd.M (Kd.int .i64) _ _ _ 0 [.int .i64 0] from rfl) (Reps.none _ _)))));intro v292 w41 ho42 hb hg_ hnew_;clear hg_ hnew_;(first|rw [← Ny291.out] at ho42|(simp only [Int.reduceToNat] at ho42;rw [← Ny291.out] at ho42));have HO293:=mk0 (Kd.R_lower (Kd.R_new' (Kd.R_new' ho42 (Kd.R_lt HO277.out)) (Kd.R_lt HO282.out)) (below_size HB.out));replace HO274:=mk0 (Kd.N_elder' HO274.out (Kd.R_base ho42) hb);replace HO277:=mk0 (Kd.R_elder' HO277.out (Kd.R_base ho42) hb);replace HO282:=mk0 (Kd.R_elder' HO282.out (Kd.R_base ho42) hb);replace HO289:=mk0 (Kd.V_elder' HO289.out (Kd.R_base ho42) hb);replace HB:=bst HB hb;clear hb ho42;obtain ⟨Ao43,co43,eo43⟩:=Kd.R_slice HO293.out;subst eo43)|((with_reducible refine gate_callee (f:=26) rfl ?_);refine goesL_ (some 42) rfl rfl Try.func26 (by kernel_rfl) rfl #[.string (⟨#[97,42,98,43]⟩:ByteArray),.slice Ao43 y291.length co43] rfl (by (try simp only [List.map_toArray,List.map_cons,List.map_nil]);first|done|rfl|(simp only [List.length_drop,List.length_take];rfl)) ?_;(with_reducible refine (count_Accepts.calls k (⟨#[97,42,98,43]⟩:ByteArray) _ _ y291 true t295 _ ?side1 ?side2 A5.out).mono ?_);(case side1=>repeat (first|exact (Kd.R_reads' HO293.out).2.2|(with_reducible refine Kd.C_alloc ?_ _)|(with_reducible refine Kd.C_drewN ?_ _)|(with_reducible refine Kd.C_drew ?_)));(case side2=>exact (Kd.R_reads' HO293.out).2.1);rintro e w44 ⟨rfl,hb⟩;refine ⟨_,rfl,?_⟩;replace HO274:=mk0 (Kd.N_below HO274.out hb);replace HO277:=rbl HO277 hb;replace HO282:=rbl HO282 hb;replace HO289:=mk0 (Kd.V_below HO289.out hb);replace HO293:=rbl HO293 hb;replace HB:=bst HB hb;(try clear hb);(try clear hk))|((with_reducible refine gate_dst (N:=46) rfl ?_);(try (refine gate_guard (by rfl) ?_;dsimp only));refine Kd.R_lit (Kd.int .i64) _ 3 ?hg (N:=46) ?hd (xs:=([1,1,0]:List Int)) (inner:=[.int .i64 1,.int .i64 1,.int .i64 0]) (ok:=fun _=>True) (okp:=fun _=>True) ?hr ?hp (fun _ hk=>hk) trivial (Below.refl _ _) (Nat.le_refl _) (by simp) ?_;(case hd=>rfl);(case hg=>rfl);(case hr=>first|(go_simp;done)|(go_simp;rfl));(case hp=>exact (Reps.one (show Kd.M (Kd.int .i64) _ _ _ 1 [.int .i64 1] from rfl) (Reps.one (show Kd.M (Kd.int .i64) _ _ _ 1 [.int .i64 1] from rfl) (Reps.one (show Kd.M (Kd.int .i64) _ _ _ 0 [.int .i64 0] from rfl) (Reps.none _ _)))));intro v297 w45 ho46 hb hg_ hnew_;clear hg_ hnew_;(first|rw [← Ny296.out] at ho46|(simp only [Int.reduceToNat] at ho46;rw [← Ny296.out] at ho46));have HO298:=mk0 (Kd.R_lower (Kd.R_new' (Kd.R_new' (Kd.R_new' ho46 (Kd.R_lt HO277.out)) (Kd.R_lt HO282.out)) (Kd.R_lt HO293.out)) (below_size HB.out));replace HO274:=mk0 (Kd.N_elder' HO274.out (Kd.R_base ho46) hb);replace HO277:=mk0 (Kd.R_elder' HO277.out (Kd.R_base ho46) hb);replace HO282:=mk0 (Kd.R_elder' HO282.out (Kd.R_base ho46) hb);replace HO289:=mk0 (Kd.V_elder' HO289.out (Kd.R_base ho46) hb);replace HO293:=mk0 (Kd.R_elder' HO293.out (Kd.R_base ho46) hb);replace HB:=bst HB hb;clear hb ho46;obtain ⟨Ao47,co47,eo47⟩:=Kd.R_slice HO298.out;subst eo47)|((with_reducible refine gate_callee (f:=26) rfl ?_);refine goesL_ (some 47) rfl rfl Try.func26 (by kernel_rfl) rfl #[.string (⟨#[97,42,98,43]⟩:ByteArray),.slice Ao47 y296.length co47] rfl (by (try simp only [List.map_toArray,List.map_cons,List.map_nil]);first|done|rfl|(simp only [List.length_drop,List.length_take];rfl)) ?_;(with_reducible refine (count_Accepts.calls k (⟨#[97,42,98,43]⟩:ByteArray) _ _ y296 false t300 _ ?side1 ?side2 A6.out).mono ?_);(case side1=>repeat (first|exact (Kd.R_reads' HO298.out).2.2|(with_reducible refine Kd.C_alloc ?_ _)|(with_reducible refine Kd.C_drewN ?_ _)|(with_reducible refine Kd.C_drew ?_)));(case side2=>exact (Kd.R_reads' HO298.out).2.1);rintro e w48 ⟨rfl,hb⟩;refine ⟨_,rfl,?_⟩;replace HO274:=mk0 (Kd.N_below HO274.out hb);replace HO277:=rbl HO277 hb;replace HO282:=rbl HO282 hb;replace HO289:=mk0 (Kd.V_below HO289.out hb);replace HO293:=rbl HO293 hb;replace HO298:=rbl HO298 hb;replace HB:=bst HB hb;(try clear hb);(try clear hk))|((with_reducible refine gate_dst (N:=73) rfl ?_);(try (refine gate_guard (by rfl) ?_;dsimp only));refine Kd.R_lit (Kd.int .i64) _ 3 ?hg (N:=73) ?hd (xs:=([0,0,0]:List Int)) (inner:=[.int .i64 0,.int .i64 0,.int .i64 0]) (ok:=fun _=>True) (okp:=fun _=>True) ?hr ?hp (fun _ hk=>hk) trivial (Below.refl _ _) (Nat.le_refl _) (by simp) ?_;(case hd=>rfl);(case hg=>rfl);(case hr=>first|(go_simp;done)|(go_simp;rfl));(case hp=>exact (Reps.one (show Kd.M (Kd.int .i64) _ _ _ 0 [.int .i64 0] from rfl) (Reps.one (show Kd.M (Kd.int .i64) _ _ _ 0 [.int .i64 0] from rfl) (Reps.one (show Kd.M (Kd.int .i64) _ _ _ 0 [.int .i64 0] from rfl) (Reps.none _ _)))));intro v302 w49 ho50 hb hg_ hnew_;clear hg_ hnew_;(first|rw [← Ny301.out] at ho50|(simp only [Int.reduceToNat] at ho50;rw [← Ny301.out] at ho50));have HO303:=mk0 (Kd.R_lower (Kd.R_new' (Kd.R_new' (Kd.R_new' (Kd.R_new' ho50 (Kd.R_lt HO277.out)) (Kd.R_lt HO282.out)) (Kd.R_lt HO293.out)) (Kd.R_lt HO298.out)) (below_size HB.out));replace HO274:=mk0 (Kd.N_elder' HO274.out (Kd.R_base ho50) hb);replace HO277:=mk0 (Kd.R_elder' HO277.out (Kd.R_base ho50) hb);replace HO282:=mk0 (Kd.R_elder' HO282.out (Kd.R_base ho50) hb);replace HO289:=mk0 (Kd.V_elder' HO289.out (Kd.R_base ho50) hb);replace HO293:=mk0 (Kd.R_elder' HO293.out (Kd.R_base ho50) hb);replace HO298:=mk0 (Kd.R_elder' HO298.out (Kd.R_base ho50) hb);replace HB:=bst HB hb;clear hb ho50;obtain ⟨Ao51,co51,eo51⟩:=Kd.R_slice HO303.out;subst eo51)|((with_reducible refine gate_dst (N:=75) rfl ?_);(try (refine gate_guard (by rfl) ?_;dsimp only));refine Kd.R_lit (Kd.int .i64) _ 3 ?hg (N:=75) ?hd (xs:=([1,1,0]:List Int)) (inner:=[.int .i64 1,.int .i64 1,.int .i64 0]) (ok:=fun _=>True) (okp:=fun _=>True) ?hr ?hp (fun _ hk=>hk) trivial (Below.refl _ _) (Nat.le_refl _) (by simp) ?_;(case hd=>rfl);(case hg=>rfl);(case hr=>first|(go_simp;done)|(go_simp;rfl));(case hp=>exact (Reps.one (show Kd.M (Kd.int .i64) _ _ _ 1 [.int .i64 1] from rfl) (Reps.one (show Kd.M (Kd.int .i64) _ _ _ 1 [.int .i64 1] from rfl) (Reps.one (show Kd.M (Kd.int .i64) _ _ _ 0 [.int .i64 0] from rfl) (Reps.none _ _)))));intro v305 w52 ho53 hb hg_ hnew_;clear hg_ hnew_;(first|rw [← Ny304.out] at ho53|(simp only [Int.reduceToNat] at ho53;rw [← Ny304.out] at ho53));have HO306:=mk0 (Kd.R_lower (Kd.R_new' (Kd.R_new' (Kd.R_new' (Kd.R_new' (Kd.R_new' ho53 (Kd.R_lt HO277.out)) (Kd.R_lt HO282.out)) (Kd.R_lt HO293.out)) (Kd.R_lt HO298.out)) (Kd.R_lt HO303.out)) (below_size HB.out));replace HO274:=mk0 (Kd.N_elder' HO274.out (Kd.R_base ho53) hb);replace HO277:=mk0 (Kd.R_elder' HO277.out (Kd.R_base ho53) hb);replace HO282:=mk0 (Kd.R_elder' HO282.out (Kd.R_base ho53) hb);replace HO289:=mk0 (Kd.V_elder' HO289.out (Kd.R_base ho53) hb);replace HO293:=mk0 (Kd.R_elder' HO293.out (Kd.R_base ho53) hb);replace HO298:=mk0 (Kd.R_elder' HO298.out (Kd.R_base ho53) hb);replace HO303:=mk0 (Kd.R_elder' HO303.out (Kd.R_base ho53) hb);replace HB:=bst HB hb;clear hb ho53)|((with_reducible refine gate_dst (N:=76) rfl ?_);(try (refine gate_guard (by rfl) ?_;dsimp only));refine Kd.R_lit (Kd.int .i64) _ 3 ?hg (N:=76) ?hd (xs:=([1,1,0]:List Int)) (inner:=[.int .i64 1,.int .i64 1,.int .i64 0]) (ok:=fun _=>True) (okp:=fun _=>True) ?hr ?hp (fun _ hk=>hk) trivial (Below.refl _ _) (Nat.le_refl _) (by simp) ?_;(case hd=>rfl);(case hg=>rfl);(case hr=>first|(go_simp;done)|(go_simp;rfl));(case hp=>exact (Reps.one (show Kd.M (Kd.int .i64) _ _ _ 1 [.int .i64 1] from rfl) (Reps.one (show Kd.M (Kd.int .i64) _ _ _ 1 [.int .i64 1] from rfl) (Reps.one (show Kd.M (Kd.int .i64) _ _ _ 0 [.int .i64 0] from rfl) (Reps.none _ _)))));intro v308 w54 ho55 hb hg_ hnew_;clear hg_ hnew_;(first|rw [← Ny307.out] at ho55|(simp only [Int.reduceToNat] at ho55;rw [← Ny307.out] at ho55));have HO309:=mk0 (Kd.R_lower (Kd.R_new' (Kd.R_new' (Kd.R_new' (Kd.R_new' (Kd.R_new' (Kd.R_new' ho55 (Kd.R_lt HO277.out)) (Kd.R_lt HO282.out)) (Kd.R_lt HO293.out)) (Kd.R_lt HO298.out)) (Kd.R_lt HO303.out)) (Kd.R_lt HO306.out)) (below_size HB.out));replace HO274:=mk0 (Kd.N_elder' HO274.out (Kd.R_base ho55) hb);replace HO277:=mk0 (Kd.R_elder' HO277.out (Kd.R_base ho55) hb);replace HO282:=mk0 (Kd.R_elder' HO282.out (Kd.R_base ho55) hb);replace HO289:=mk0 (Kd.V_elder' HO289.out (Kd.R_base ho55) hb);replace HO293:=mk0 (Kd.R_elder' HO293.out (Kd.R_base ho55) hb);replace HO298:=mk0 (Kd.R_elder' HO298.out (Kd.R_base ho55) hb);replace HO303:=mk0 (Kd.R_elder' HO303.out (Kd.R_base ho55) hb);replace HO306:=mk0 (Kd.R_elder' HO306.out (Kd.R_base ho55) hb);replace HB:=bst HB hb;clear hb ho55;obtain ⟨Ao56,co56,eo56⟩:=Kd.R_slice HO309.out;subst eo56)|((with_reducible refine gate_dst (N:=77) rfl ?_);(try (refine gate_guard (by rfl) ?_;dsimp only));refine Kd.N_lit (Kd.slice 3 (Kd.int .i64)) _ 23 ?hg (N':=77) ?hd (xs:=([y307]:List (List Int))) (inner:=[.slice Ao56 y307.length co56]) (ok:=(fun k_=>some k_ ≠ (.slice Ao32 y272.length co32:Value).ownBlock∧some k_ ≠ (.slice Ao33 y275.length co33:Value).ownBlock∧some k_ ≠ (.slice Ao37 y280.length co37:Value).ownBlock∧some k_ ≠ (.slice Ao43 y291.length co43:Value).ownBlock∧some k_ ≠ (.slice Ao47 y296.length co47:Value).ownBlock∧some k_ ≠ (.slice Ao51 y301.length co51:Value).ownBlock∧some k_ ≠ (v305:Value).ownBlock)) (okp:=(fun k_=>some k_ ≠ (.slice Ao32 y272.length co32:Value).ownBlock∧some k_ ≠ (.slice Ao33 y275.length co33:Value).ownBlock∧some k_ ≠ (.slice Ao37 y280.length co37:Value).ownBlock∧some k_ ≠ (.slice Ao43 y291.length co43:Value).ownBlock∧some k_ ≠ (.slice Ao47 y296.length co47:Value).ownBlock∧some k_ ≠ (.slice Ao51 y301.length co51:Value).ownBlock∧some k_ ≠ (v305:Value).ownBlock)) ?hr ?hp (fun _ hk=>hk) ((show ∀ k_,w54.heap.size ≤ k_ → (fun k_=>some k_ ≠ (.slice Ao32 y272.length co32:Value).ownBlock∧some k_ ≠ (.slice Ao33 y275.length co33:Value).ownBlock∧some k_ ≠ (.slice Ao37 y280.length co37:Value).ownBlock∧some k_ ≠ (.slice Ao43 y291.length co43:Value).ownBlock∧some k_ ≠ (.slice Ao47 y296.length co47:Value).ownBlock∧some k_ ≠ (.slice Ao51 y301.length co51:Value).ownBlock∧some k_ ≠ (v305:Value).ownBlock) k_ from fun k_ hk=>⟨Kd.fresh' (Kd.N_lt HO274.out) k_ hk,Kd.fresh' (Kd.R_lt HO277.out) k_ hk,Kd.fresh' (Kd.R_lt HO282.out) k_ hk,Kd.fresh' (Kd.R_lt HO293.out) k_ hk,Kd.fresh' (Kd.R_lt HO298.out) k_ hk,Kd.fresh' (Kd.R_lt HO303.out) k_ hk,Kd.fresh' (Kd.R_lt HO306.out) k_ hk⟩) _ (Nat.le_refl _)) (Below.refl _ _) (Nat.le_refl _) (by simp) ?_;(case hd=>rfl);(case hg=>rfl);(case hr=>first|(go_simp;done)|(go_simp;rfl));(case hp=>exact (Reps.one (show Kd.FK (Kd.slice 3 (Kd.int .i64)) _ _ y307 [.slice Ao56 y307.length co56] from (Kd.FK_slice_mk (Kd.R_reads' (Kd.R_mono (ok':=(fun k_=>some k_ ≠ (.slice Ao32 y272.length co32:Value).ownBlock∧some k_ ≠ (.slice Ao33 y275.length co33:Value).ownBlock∧some k_ ≠ (.slice Ao37 y280.length co37:Value).ownBlock∧some k_ ≠ (.slice Ao43 y291.length co43:Value).ownBlock∧some k_ ≠ (.slice Ao47 y296.length co47:Value).ownBlock∧some k_ ≠ (.slice Ao51 y301.length co51:Value).ownBlock∧some k_ ≠ (v305:Value).ownBlock)) (Kd.R_apart' (HO309.out) (Kd.N_typed HO274.out) (by decide)) (fun k_ hk=>⟨hk.2,⟨hk.1.1.1.1.1.1.2,⟨hk.1.1.1.1.1.2,⟨hk.1.1.1.1.2,⟨hk.1.1.1.2,⟨hk.1.1.2,hk.1.2⟩⟩⟩⟩⟩⟩))).2.1 (Kd.R_F (Kd.R_mono (ok':=(fun k_=>some k_ ≠ (.slice Ao32 y272.length co32:Value).ownBlock∧some k_ ≠ (.slice Ao33 y275.length co33:Value).ownBlock∧some k_ ≠ (.slice Ao37 y280.length co37:Value).ownBlock∧some k_ ≠ (.slice Ao43 y291.length co43:Value).ownBlock∧some k_ ≠ (.slice Ao47 y296.length co47:Value).ownBlock∧some k_ ≠ (.slice Ao51 y301.length co51:Value).ownBlock∧some k_ ≠ (v305:Value).ownBlock)) (Kd.R_apart' (HO309.out) (Kd.N_typed HO274.out) (by decide)) (fun k_ hk=>⟨hk.2,⟨hk.1.1.1.1.1.1.2,⟨hk.1.1.1.1.1.2,⟨hk.1.1.1.1.2,⟨hk.1.1.1.2,⟨hk.1.1.2,hk.1.2⟩⟩⟩⟩⟩⟩))))) (Reps.none _ _)));intro v311 w57 ho58 hb hg_ hnew_;clear hg_ hnew_;(first|rw [← Ny310.out] at ho58|(simp only [Int.reduceToNat] at ho58;rw [← Ny310.out] at ho58));have HO312:=mk0 (Kd.N_lower ho58 (below_size HB.out));replace HO274:=mk0 (Kd.N_elder' HO274.out (by first|exact Kd.N_base ho58|exact Kd.S_base ho58|exact Kd.R_base ho58) hb);replace HO277:=rbl HO277 hb;replace HO282:=rbl HO282 hb;replace HO289:=mk0 (Kd.V_elder' HO289.out (by first|exact Kd.N_base ho58|exact Kd.S_base ho58|exact Kd.R_base ho58) hb);replace HO293:=rbl HO293 hb;replace HO298:=rbl HO298 hb;replace HO303:=rbl HO303 hb;replace HO306:=rbl HO306 hb;replace HB:=bst HB hb;clear HO309;clear hb ho58;obtain ⟨Ao59,co59,eo59⟩:=Kd.N_slice HO312.out;subst eo59;obtain ⟨Ao60,co60,eo60⟩:=Kd.R_slice HO306.out;subst eo60)|((with_reducible refine gate_dst (N:=79) rfl ?_);(try (refine gate_guard (by rfl) ?_;dsimp only));refine Kd.N_lit k60 _ 60 ?hg (N':=79) ?hd (xs:=([(⟨y301,([]:List (List Int))⟩:S60),(⟨y304,y310⟩:S60)]:List (S60))) (inner:=[.slice Ao51 y301.length co51,.slice none 0 0,.slice Ao60 y304.length co60,.slice Ao59 y310.length co59]) (ok:=(fun k_=>some k_ ≠ (.slice Ao32 y272.length co32:Value).ownBlock∧some k_ ≠ (.slice Ao33 y275.length co33:Value).ownBlock∧some k_ ≠ (.slice Ao37 y280.length co37:Value).ownBlock∧some k_ ≠ (.slice Ao43 y291.length co43:Value).ownBlock∧some k_ ≠ (.slice Ao47 y296.length co47:Value).ownBlock)) (okp:=(fun k_=>some k_ ≠ (.slice Ao32 y272.length co32:Value).ownBlock∧some k_ ≠ (.slice Ao33 y275.length co33:Value).ownBlock∧some k_ ≠ (.slice Ao37 y280.length co37:Value).ownBlock∧some k_ ≠ (.slice Ao43 y291.length co43:Value).ownBlock∧some k_ ≠ (.slice Ao47 y296.length co47:Value).ownBlock)) ?hr ?hp (fun _ hk=>hk) ((show ∀ k_,w57.heap.size ≤ k_ → (fun k_=>some k_ ≠ (.slice Ao32 y272.length co32:Value).ownBlock∧some k_ ≠ (.slice Ao33 y275.length co33:Value).ownBlock∧some k_ ≠ (.slice Ao37 y280.length co37:Value).ownBlock∧some k_ ≠ (.slice Ao43 y291.length co43:Value).ownBlock∧some k_ ≠ (.slice Ao47 y296.length co47:Value).ownBlock) k_ from fun k_ hk=>⟨Kd.fresh' (Kd.N_lt HO274.out) k_ hk,Kd.fresh' (Kd.R_lt HO277.out) k_ hk,Kd.fresh' (Kd.R_lt HO282.out) k_ hk,Kd.fresh' (Kd.R_lt HO293.out) k_ hk,Kd.fresh' (Kd.R_lt HO298.out) k_ hk⟩) _ (Nat.le_refl _)) (Below.refl _ _) (Nat.le_refl _) (by simp) ?_;(case hd=>rfl);(case hg=>rfl);(case hr=>first|(go_simp;done)|(go_simp;rfl));(case hp=>exact (Reps.c2 (show Kd.FK k60 _ _ (⟨y301,([]:List (List Int))⟩:S60) [.slice Ao51 y301.length co51,.slice none 0 0] from (k60_mkF _ _ (⟨y301,([]:List (List Int))⟩:S60) (Kd.R_reads' (Kd.R_mono (ok':=(fun k_=>some k_ ≠ (.slice Ao32 y272.length co32:Value).ownBlock∧some k_ ≠ (.slice Ao33 y275.length co33:Value).ownBlock∧some k_ ≠ (.slice Ao37 y280.length co37:Value).ownBlock∧some k_ ≠ (.slice Ao43 y291.length co43:Value).ownBlock∧some k_ ≠ (.slice Ao47 y296.length co47:Value).ownBlock)) (Kd.R_apart' (HO303.out) (Kd.N_typed HO274.out) (by decide)) (fun k_ hk=>⟨hk.2,⟨hk.1.1.1.1.1.1.2,⟨hk.1.1.1.1.1.2,⟨hk.1.1.1.1.2,hk.1.1.1.2⟩⟩⟩⟩))).2.1 (Kd.R_F (Kd.R_mono (ok':=(fun k_=>some k_ ≠ (.slice Ao32 y272.length co32:Value).ownBlock∧some k_ ≠ (.slice Ao33 y275.length co33:Value).ownBlock∧some k_ ≠ (.slice Ao37 y280.length co37:Value).ownBlock∧some k_ ≠ (.slice Ao43 y291.length co43:Value).ownBlock∧some k_ ≠ (.slice Ao47 y296.length co47:Value).ownBlock)) (Kd.R_apart' (HO303.out) (Kd.N_typed HO274.out) (by decide)) (fun k_ hk=>⟨hk.2,⟨hk.1.1.1.1.1.1.2,⟨hk.1.1.1.1.1.2,⟨hk.1.1.1.1.2,hk.1.1.1.2⟩⟩⟩⟩))) (Nat.le_refl _) (Kd.F_nil _ _ _))) (Reps.c2 (show Kd.FK k60 _ _ (⟨y304,y310⟩:S60) [.slice Ao60 y304.length co60,.slice Ao59 y310.length co59] from (k60_mkF _ _ (⟨y304,y310⟩:S60) (Kd.R_reads' (Kd.R_mono (ok':=(fun k_=>some k_ ≠ (.slice Ao32 y272.length co32:Value).ownBlock∧some k_ ≠ (.slice Ao33 y275.length co33:Value).ownBlock∧some k_ ≠ (.slice Ao37 y280.length co37:Value).ownBlock∧some k_ ≠ (.slice Ao43 y291.length co43:Value).ownBlock∧some k_ ≠ (.slice Ao47 y296.length co47:Value).ownBlock)) (Kd.R_apart' (HO306.out) (Kd.N_typed HO274.out) (by decide)) (fun k_ hk=>⟨hk.2,⟨hk.1.1.1.1.1.1.2,⟨hk.1.1.1.1.1.2,⟨hk.1.1.1.1.2,hk.1.1.1.2⟩⟩⟩⟩))).2.1 (Kd.R_F (Kd.R_mono (ok':=(fun k_=>some k_ ≠ (.slice Ao32 y272.length co32:Value).ownBlock∧some k_ ≠ (.slice Ao33 y275.length co33:Value).ownBlock∧some k_ ≠ (.slice Ao37 y280.length co37:Value).ownBlock∧some k_ ≠ (.slice Ao43 y291.length co43:Value).ownBlock∧some k_ ≠ (.slice Ao47 y296.length co47:Value).ownBlock)) (Kd.R_apart' (HO306.out) (Kd.N_typed HO274.out) (by decide)) (fun k_ hk=>⟨hk.2,⟨hk.1.1.1.1.1.1.2,⟨hk.1.1.1.1.1.2,⟨hk.1.1.1.1.2,hk.1.1.1.2⟩⟩⟩⟩))) (Kd.N_reads' (Kd.N_mono (ok':=(fun k_=>some k_ ≠ (.slice Ao32 y272.length co32:Value).ownBlock∧some k_ ≠ (.slice Ao33 y275.length co33:Value).ownBlock∧some k_ ≠ (.slice Ao37 y280.length co37:Value).ownBlock∧some k_ ≠ (.slice Ao43 y291.length co43:Value).ownBlock∧some k_ ≠ (.slice Ao47 y296.length co47:Value).ownBlock)) (HO312.out) (fun k_ hk=>⟨hk.1,⟨hk.2.1,⟨hk.2.2.1,⟨hk.2.2.2.1,hk.2.2.2.2.1⟩⟩⟩⟩))).2.1 (Kd.N_F (Kd.N_mono (ok':=(fun k_=>some k_ ≠ (.slice Ao32 y272.length co32:Value).ownBlock∧some k_ ≠ (.slice Ao33 y275.length co33:Value).ownBlock∧some k_ ≠ (.slice Ao37 y280.length co37:Value).ownBlock∧some k_ ≠ (.slice Ao43 y291.length co43:Value).ownBlock∧some k_ ≠ (.slice Ao47 y296.length co47:Value).ownBlock)) (HO312.out) (fun k_ hk=>⟨hk.1,⟨hk.2.1,⟨hk.2.2.1,⟨hk.2.2.2.1,hk.2.2.2.2.1⟩⟩⟩⟩))))) (Reps.none _ _))));intro v314 w61 ho62 hb hg_ hnew_;clear hg_ hnew_;(first|rw [← Ny313.out] at ho62|(simp only [Int.reduceToNat] at ho62;rw [← Ny313.out] at ho62));have HO315:=mk0 (Kd.N_lower ho62 (below_size HB.out));replace HO274:=mk0 (Kd.N_elder' HO274.out (by first|exact Kd.N_base ho62|exact Kd.S_base ho62|exact Kd.R_base ho62) hb);replace HO277:=rbl HO277 hb;replace HO282:=rbl HO282 hb;replace HO289:=mk0 (Kd.V_elder' HO289.out (by first|exact Kd.N_base ho62|exact Kd.S_base ho62|exact Kd.R_base ho62) hb);replace HO293:=rbl HO293 hb;replace HO298:=rbl HO298 hb;replace HB:=bst HB hb;clear HO303;clear HO306;clear HO312;clear hb ho62;obtain ⟨Ao63,co63,eo63⟩:=Kd.V_slice HO289.out;subst eo63;obtain ⟨Ao64,co64,eo64⟩:=Kd.N_slice HO315.out;subst eo64)|(go_at_call 31;(with_reducible refine (bellpullref05_Same.calls k _ _ t287 _ _ y313 true _ ?side1 ?side2 ?side3 ?side4 A13.out).mono ?_);(case side1=>repeat (first|exact (Kd.V_reads' HO289.out).2.2|(with_reducible refine Kd.C_alloc ?_ _)|(with_reducible refine Kd.C_drewN ?_ _)|(with_reducible refine Kd.C_drew ?_)));(case side2=>exact (Kd.V_reads' HO289.out).2.1);(case side3=>repeat (first|exact (Kd.N_reads' HO315.out).2.2|(with_reducible refine Kd.C_alloc ?_ _)|(with_reducible refine Kd.C_drewN ?_ _)|(with_reducible refine Kd.C_drew ?_)));(case side4=>exact (Kd.N_reads' HO315.out).2.1);rintro e w65 ⟨rfl,hb⟩;replace HO274:=mk0 (Kd.N_below HO274.out hb);replace HO277:=rbl HO277 hb;replace HO282:=rbl HO282 hb;replace HO289:=mk0 (Kd.V_below HO289.out hb);replace HO293:=rbl HO293 hb;replace HO298:=rbl HO298 hb;replace HO315:=mk0 (Kd.N_below HO315.out hb);replace HB:=bst HB hb;(try clear hb);(try clear hk)))
            go_ret;exact ⟨by first|rfl|(simp [errW_none,errW_some] <;> rfl)|(simp [*,errW_none,errW_some] <;> rfl),by repeat (first|(with_reducible first|exact HB.out|apply below_alloc|apply pw_below_drewN|apply below_drew1)|exact HB.out)⟩
          ·
           rw [if_neg c17] at H;exact absurd H (by simp)
         ·
          replace c16:=Bool.eq_false_iff.mpr c16;subst c16;have H1:(none)=some r:=by rw [if_neg (show ¬ (false=true) by decide)] at H;exact H
          clear H;have H:=H1;clear H1;exact absurd H (by simp)
        ·
         rw [if_neg c15] at H;exact absurd H (by simp)
       ·
        replace c14:=Bool.eq_false_iff.mpr c14;subst c14;have H1:(none)=some r:=by rw [if_neg (show ¬ (false=true) by decide)] at H;exact H
        clear H;have H:=H1;clear H1;exact absurd H (by simp)
      ·
       rw [if_neg c12] at H;exact absurd H (by simp)
     ·
      rw [if_neg c11] at H;exact absurd H (by simp)
    ·
     rw [if_neg c10] at H;exact absurd H (by simp)
  ·
   rw [if_neg c8] at H;exact absurd H (by simp)
 ·
  replace c7:=Bool.eq_false_iff.mpr c7;subst c7;have H1:(none)=some r:=by rw [if_neg (show ¬ (false=true) by decide)] at H;exact H
  clear H;have H:=H1;clear H1;exact absurd H (by simp)
end Go.Proofs.Ytkonljiembcdlaa.PC
