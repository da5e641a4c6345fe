-- Written by pr2.py, a program of this session's, for this claim (through the kit's print).
import Derived.Test.YtploaicljkennaaPWx0
import Derived.Test.YtploaicljkennaaPWx1
import Derived.Test.YtploaicljkennaaPWx2
namespace Go.Proofs.Ytploaicljkennaa.PW
open Go.Proofs.MyWords Go.RowKit Go.Proofs.YtploaicljkennaaW.PrintWords Go.Proofs.YtploaicljkennaaW.PrintLast Go.Proofs.YtploaicljkennaaW.PrintMore
attribute [local go_sem] max2_int min2_int max_two min_two max_three min_three max_four min_four   -- for this text's walks alone
set_option linter.unusedVariables false
set_option linter.unusedSimpArgs false

/-! ### echo_words: function 50 -/
/-- One more letter behind a word: nothing, if that isn't smooth. -/
def echo_words.ext (k:Nat) (s:List UInt8) (x:UInt8):Option (List (List UInt8)):=(echo_letters.f k ⟨(s ++ [x]).toArray⟩).bind fun l=>(echo_smooth.f k l).bind fun b=>some (if b=true then [s ++ [x]] else [])
def echo_words.two (k:Nat) (s:List UInt8):List (List UInt8):=((echo_words.ext k s 49).getD []) ++ ((echo_words.ext k s 50).getD [])
def echo_words.all (k:Nat) (S:List (List UInt8)):Bool:=S.all fun s=>(echo_words.ext k s 49).isSome && (echo_words.ext k s 50).isSome
/-- Both letters behind each word. -/
def echo_words.go (k:Nat):List (List UInt8) → Option (List (List UInt8))
  | []=>some []
  | s :: r=>(echo_words.ext k s 49).bind fun a=>(echo_words.ext k s 50).bind fun b=>(echo_words.go k r).bind fun c=>some (a ++ (b ++ c))
def echo_words.f (k:Nat):Nat → Option (List (List UInt8))
  | 0=>some [[]]
  | j + 1=>(echo_words.f k j).bind fun S=>if S.length ≤ 1000000 then echo_words.go k S else none
theorem echo_words.go_eq (k:Nat):∀ S,echo_words.go k S=if echo_words.all k S=true then some (S.flatMap (echo_words.two k)) else none
  | []=>by simp [echo_words.go,echo_words.all]
  | s :: r=>by
    rw [echo_words.go,echo_words.go_eq k r]
    rcases h1:echo_words.ext k s 49 with _|a
    · simp [echo_words.all,h1]
    · rcases h2:echo_words.ext k s 50 with _|b
      · simp [echo_words.all,h2]
      · by_cases h3:echo_words.all k r=true
        · have h4:echo_words.all k (s :: r)=true:=by
            unfold echo_words.all at h3 ⊢
            rw [List.all_cons,h1,h2,h3];rfl
          rw [if_pos h3,if_pos h4,List.flatMap_cons]
          simp [echo_words.two,h1,h2]
        · have h4:¬ echo_words.all k (s :: r)=true:=fun h=>h3 (by unfold echo_words.all at h ⊢;rw [List.all_cons,Bool.and_eq_true] at h;exact h.2)
          rw [if_neg h3,if_neg h4];rfl
theorem echo_words.f_succ (k j:Nat):echo_words.f k (j + 1)=(echo_words.f k j).bind fun S=>if echo_words.all k S=true∧S.length ≤ 1000000 then some (S.flatMap (echo_words.two k)) else none:=by
  rw [echo_words.f]
  congr 1
  funext S
  rw [echo_words.go_eq]
  by_cases h1:S.length ≤ 1000000 <;> by_cases h2:echo_words.all k S=true <;> simp [h1,h2]
theorem echo_words.ext_of {k:Nat} {S:List (List UInt8)} (h:echo_words.all k S=true) {s:List UInt8} (hs:s ∈ S):(∃ a,echo_words.ext k s 49=some a)∧∃ b,echo_words.ext k s 50=some b:=by
  have:=List.all_eq_true.1 h s hs
  simp only [Bool.and_eq_true,Option.isSome_iff_exists] at this
  exact this
theorem echo_words.ext_val {k:Nat} {s:List UInt8} {x:UInt8} {a:List (List UInt8)} (h:echo_words.ext k s x=some a):∃ l b,echo_letters.f k ⟨(s ++ [x]).toArray⟩=some l∧echo_smooth.f k l=some b∧a=if b=true then [s ++ [x]] else []:=by
  unfold echo_words.ext at h
  obtain ⟨l,h1,h⟩:=Option.bind_eq_some_iff.mp h
  obtain ⟨b,h2,h⟩:=Option.bind_eq_some_iff.mp h
  exact ⟨l,b,h1,h2,(Option.some.inj h).symm⟩
theorem echo_words.ext_mem {k:Nat} {s t:List UInt8} {x:UInt8} (h:t ∈ (echo_words.ext k s x).getD []):t=s ++ [x]:=by
  rcases he:echo_words.ext k s x with _|a
  · rw [he] at h;cases h
  · rw [he] at h
    obtain ⟨l,b,_,_,rfl⟩:=echo_words.ext_val he
    cases b <;> simp at h
    exact h
/-- What the letters up to the i-th one give. -/
def echo_words.part (k:Nat) (s:List UInt8) (i:Nat):List (List UInt8):=if i=0 then [] else if i=1 then (echo_words.ext k s 49).getD [] else echo_words.two k s
theorem echo_words.part_mem {k:Nat} {s t:List UInt8} {i:Nat} (h:t ∈ echo_words.part k s i):∃ x,t=s ++ [x]:=by
  unfold echo_words.part at h
  split at h
  · cases h
  · split at h
    · exact ⟨_,echo_words.ext_mem h⟩
    · rcases List.mem_append.1 h with h|h <;> exact ⟨_,echo_words.ext_mem h⟩
def echo_words.acc (k:Nat) (T:List (List UInt8)) (s:List UInt8) (i:Nat):List (List UInt8):=T.flatMap (echo_words.two k) ++ echo_words.part k s i
theorem echo_words.fresh {k:Nat} {T:List (List UInt8)} {s:List UInt8} (hs:s ∉ T) (i:Nat) (x:UInt8) (hx:i=0 ∨ (i=1∧x ≠ 49)):s ++ [x] ∉ echo_words.acc k T s i:=fun h=>by
  unfold echo_words.acc at h
  rcases List.mem_append.1 h with h|h
  · obtain ⟨t,ht,h⟩:=List.mem_flatMap.1 h
    have:∃ y,s ++ [x]=t ++ [y]:=by
      rcases List.mem_append.1 h with h|h <;> exact ⟨_,echo_words.ext_mem h⟩
    obtain ⟨y,e⟩:=this
    have:=(List.append_inj' e rfl).1
    subst this
    exact hs ht
  · unfold echo_words.part at h
    rcases hx with rfl|⟨rfl,hx⟩
    · simp at h
    · simp at h
      have:=echo_words.ext_mem (x:=49) (k:=k) (s:=s) (t:=s ++ [x]) (by simpa using h)
      have:=(List.append_inj' this rfl).2
      simp at this
      exact hx this
theorem echo_words.acc_len {k:Nat} {T:List (List UInt8)} {s:List UInt8} {i:Nat}:(echo_words.acc k T s i).length ≤ 2 * T.length + 2:=by
  have e:∀ s x,((echo_words.ext k s x).getD []).length ≤ 1:=fun s x=>by
    rcases he:echo_words.ext k s x with _|a
    · simp
    · obtain ⟨l,b,_,_,rfl⟩:=echo_words.ext_val he
      cases b <;> simp
  have e2:∀ s,(echo_words.two k s).length ≤ 2:=fun s=>by
    unfold echo_words.two;rw [List.length_append];have:=e s 49;have:=e s 50;omega
  have h1:(T.flatMap (echo_words.two k)).length ≤ 2 * T.length:=by
    induction T with
    | nil=>simp
    | cons t T ih=>rw [List.flatMap_cons,List.length_append,List.length_cons];have:=e2 t;omega
  unfold echo_words.acc echo_words.part
  rw [List.length_append]
  split
  · rw [List.length_nil];omega
  · split
    · have:=e s 49;omega
    · have:=e2 s;omega
theorem echo_words.perm_len {k:Nat} {n:Nat} {S:List (List UInt8)} (h:echo_words.f k n=some S):∀ s ∈ S,s.length=n:=by
  induction n generalizing S with
  | zero=>obtain rfl:=Option.some.inj h;simp
  | succ n ih =>
    rw [echo_words.f_succ] at h
    obtain ⟨S0,h0,h⟩:=Option.bind_eq_some_iff.mp h
    split at h
    · obtain rfl:=Option.some.inj h
      intro t ht
      obtain ⟨s,hs,ht⟩:=List.mem_flatMap.1 ht
      have:=ih h0 s hs
      rcases List.mem_append.1 ht with h|h <;> (rw [echo_words.ext_mem h];simp [this])
    · cases h
def Stop (p:Prop):Prop:=p
theorem stop_ {p:Prop} (h:Stop p):p:=h
theorem echo_words.str (x y:ByteArray):(x ++ y).data.toList=x.data.toList ++ y.data.toList:=by simp
/-- The outer loop. -/
def echo_words.R (k n:Nat) (w:World) (v i:Value) (wr:World):Prop:=∃ (j b:Nat) (S S0:List (List UInt8)),i=.int .i64 j∧j ≤ n∧v=.map (some b)∧w.heap.size ≤ b∧SetW.SetOf Try.prog 9 4 wr b S∧S.Nodup∧echo_words.f k j=some S0∧S.Perm S0∧Below w.heap.size w wr
/-- The loop over a map's words. -/
def echo_words.R2 (k:Nat) (w:World) (b nb r:Nat) (S:List (List UInt8)) (wr:World):Prop:=∃ T,SetW.RangeOf Try.prog 9 4 wr b r S T∧SetW.SetOf Try.prog 9 4 wr nb (T.flatMap (echo_words.two k))∧(T.flatMap (echo_words.two k)).Nodup∧Below w.heap.size w wr
/-- The loop over the two letters. -/
def echo_words.R3 (k:Nat) (w:World) (b nb r c L:Nat) (S T:List (List UInt8)) (s:ByteArray) (i:Value) (wr:World):Prop:=∃ j:Nat,(i=.int .i64 0∧j=0 ∨ i=.int .i64 1∧j=1 ∨ i=.int .i64 2∧j=2)∧SetW.RangeOf Try.prog 9 4 wr b r S (T ++ [s.data.toList])∧SetW.SetOf Try.prog 9 4 wr nb (echo_words.acc k T s.data.toList j)∧(echo_words.acc k T s.data.toList j).Nodup∧wr.heap[c]?=some (.cells #[.string ⟨#[49]⟩,.string ⟨#[50]⟩] 9 (0,0))∧wr.rangeLeft b r=L∧Below w.heap.size w wr
/-- What words' contract says. -/
def echo_words.P (k n:Nat) (w:World) (e:Ending) (w':World):Prop:=∃ (b:Nat) (S S0:List (List UInt8)),e=.returned (.map (some b))∧w.heap.size ≤ b∧SetW.SetOf Try.prog 9 4 w' b S∧S.Nodup∧echo_words.f k n=some S0∧S.Perm S0∧Below w.heap.size w w'
theorem lit_event {P:Program} {ops:Array Oper} {rest:List Oper} {o:Oper} {a:Act} {Q:Exit → Act → World → Prop} {W:World} (hgd:o.guard=none) {N:Tmp} (_hd:o.dst=some N) {cs:Array Value} {t:TypeId} {n m:Nat}
    (hrun:(execOp a.eval o).run P W=.ok (.value (.slice (some ⟨W.heap.size,0,none⟩) n m)) (W.alloc (.cells cs t)))
    (h:∀ g,W.heap.size=g → ∀ w1,w1.heap[g]?=some (.cells cs t (0,0)) → Below W.heap.size W w1 → wpList P ops Q rest (a.put o.dst (.slice (some ⟨g,0,none⟩) n m)) w1):wpList P ops Q (o :: rest) a W :=
  Kd.event_run hgd hrun (h _ rfl _ (blk_new W _) (below_alloc (Below.refl _ _) _))
theorem echo_words.down {k n:Nat} (h:∃ S,echo_words.f k n=some S) {j:Nat} {S0:List (List UInt8)} (hj:j < n) (hf:echo_words.f k j=some S0):echo_words.all k S0=true∧S0.length ≤ 1000000∧echo_words.f k (j + 1)=some (S0.flatMap (echo_words.two k)):=by
  have up:∀ (m:Nat),(∃ S,echo_words.f k (j + 1 + m)=some S) → ∃ S,echo_words.f k (j + 1)=some S:=fun m=>by
    induction m with
    | zero=>exact id
    | succ m ih =>
      intro ⟨S,hS⟩
      have:echo_words.f k (j + 1 + m + 1)=some S:=hS
      rw [echo_words.f_succ] at this
      obtain ⟨S1,h1,_⟩:=Option.bind_eq_some_iff.mp this
      exact ih ⟨S1,h1⟩
  obtain ⟨S1,h1⟩:=up (n - (j + 1)) (by rwa [show j + 1 + (n - (j + 1))=n by omega])
  have h2:=h1
  rw [echo_words.f_succ] at h2
  rw [hf,Option.bind_some] at h2
  split at h2
  · rename_i hc
    exact ⟨hc.1,hc.2,h1.trans h2.symm⟩
  · cases h2
theorem echo_words.acc_end (k:Nat) (T:List (List UInt8)) (s:List UInt8):echo_words.acc k T s 2=(T ++ [s]).flatMap (echo_words.two k):=by
  simp [echo_words.acc,echo_words.part]
theorem echo_words.acc_start (k:Nat) (T:List (List UInt8)) (s:List UInt8):echo_words.acc k T s 0=T.flatMap (echo_words.two k):=by
  simp [echo_words.acc,echo_words.part]
theorem echo_words.acc_one (k:Nat) (T:List (List UInt8)) (s:List UInt8):echo_words.acc k T s 1=echo_words.acc k T s 0 ++ (echo_words.ext k s 49).getD []:=by
  simp [echo_words.acc,echo_words.part]
theorem echo_words.acc_two (k:Nat) (T:List (List UInt8)) (s:List UInt8):echo_words.acc k T s 2=echo_words.acc k T s 1 ++ (echo_words.ext k s 50).getD []:=by
  simp [echo_words.acc,echo_words.part,echo_words.two]
theorem echo_words.perm2 {S T S0:List (List UInt8)} (h1:T.Nodup) (h2:S.Nodup) (h3:∀ s ∈ T,s ∈ S) (h4:∀ s ∈ S,s ∈ T) (hp:S.Perm S0) (k:Nat):(T.flatMap (echo_words.two k)).Perm (S0.flatMap (echo_words.two k)) :=
  (((List.perm_ext_iff_of_nodup h1 h2).2 fun a=>⟨h3 a,h4 a⟩).trans hp).flatMap_right _
theorem nodup_snoc {α:Type} {l:List α} {a:α} (h:l.Nodup) (ha:a ∉ l):(l ++ [a]).Nodup:=by
  rw [List.nodup_append]
  exact ⟨h,by simp,fun x hx y hy=>by simp at hy;subst hy;exact fun e=>ha (e ▸ hx)⟩
theorem gate_upd {P:Program} {w:World} {ops:Array Oper} {rest:List Oper} {o:Oper} {a:Act} {Q:Exit → Act → World → Prop} {t:TypeId} {m x v:Operand} (_ho:o.op=.mapUpdate t m x v) (h:wpList P ops Q (o :: rest) a w):wpList P ops Q (o :: rest) a w:=h
theorem gate_ins {P:Program} {w:World} {ops:Array Oper} {rest:List Oper} {o:Oper} {a:Act} {Q:Exit → Act → World → Prop} {t:TypeId} {m x v:Operand} (_ho:o.op=.insert t m x v) (h:wpList P ops Q (o :: rest) a w):wpList P ops Q (o :: rest) a w:=h
theorem nodup_len {α:Type} [DecidableEq α]:∀ (T S:List α),T.Nodup → (∀ x ∈ T,x ∈ S) → T.length ≤ S.length
  | [],_,_,_=>Nat.zero_le _
  | t :: T,S,h,hs=>by
    obtain ⟨h1,h2⟩:=List.nodup_cons.1 h
    have ht:=hs t (by simp)
    have:=nodup_len T (S.erase t) h2 (fun x hx=>(List.mem_erase_of_ne (fun e=>h1 (by rw [← e];exact hx))).2 (hs x (by simp [hx])))
    rw [List.length_erase_of_mem ht] at this
    have:=List.length_pos_of_mem ht
    simp only [List.length_cons]
    omega
theorem echo_words.room {k:Nat} {T S S0:List (List UInt8)} {s:List UInt8} {i:Nat} (h1:T.Nodup) (h2:∀ x ∈ T,x ∈ S) (hp:S.Perm S0) (h3:S0.length ≤ 1000000):(echo_words.acc k T s i).length < maxLen:=by
  have h4:=echo_words.acc_len (k:=k) (T:=T) (s:=s) (i:=i)
  have h5:=nodup_len T S h1 h2
  have h6:=hp.length_eq
  unfold maxLen;omega
theorem echo_words.small (s:ByteArray) (x:UInt8) {j n:Nat} (h:s.data.toList.length=j) (hj:j < n) (hn:n ≤ 20):(s ++ ⟨#[x]⟩).size ≤ maxLen:=by
  have h2:s.size=s.data.toList.length:=rfl
  have h3:(s ++ ⟨#[x]⟩:ByteArray).size=s.size + 1:=ByteArray.size_append
  unfold maxLen;omega
theorem echo_words.short (s:ByteArray) {j n:Nat} (h:s.data.toList.length=j) (hj:j < n) (hn:n ≤ 20):s.size + 1 ≤ 9223372036854775807:=by
  have h2:s.size=s.data.toList.length:=rfl
  omega
theorem echo_words.key (s:ByteArray) (x:UInt8):(⟨(s.data.toList ++ [x]).toArray⟩:ByteArray)=s ++ ⟨#[x]⟩:=by
  apply ByteArray.ext
  apply Array.toList_inj.1
  simp
set_option maxHeartbeats 40000000 in
set_option maxRecDepth 100000 in
theorem echo_words.calls (k n:Nat) (hn:n ≤ 20) (w:World) (h:∃ S0,echo_words.f k n=some S0):Calls Try.prog 50 #[.int .i64 n] w (echo_words.P k n w):=by
  have H:=Aside0.mk h
  clear h
  go_enter Try.func50,Try.ntmps50
  go_wp2_with (first
    | ((with_reducible refine gate_dst (N:=8) rfl ?_);refine SetW.made_set _ rfl 65 9 4 rfl ?_;intro b0 w0 hz0 hs0 hb0;have HS0:=Aside0.mk hs0;have HB0:=Aside0.mk hb0;have HZ0:Aside0 (w.heap.size ≤ b0):=⟨by omega⟩;clear hs0 hb0 hz0)
    | ((with_reducible refine gate_ins (t:=65) rfl ?_);refine SetW.insert_set _ rfl (.tmp 8) (.const (.string ⟨#[]⟩)) (.const (.bool true)) 65 9 4 rfl Try.underlying9 Try.underlying4 Try.underlying65 b0 [] rfl HS0.out (by decide) ⟨#[]⟩ rfl (by decide) true rfl (by simp) ?_;intro w1 hs1 hg1;have HS1:=Aside0.mk hs1;have HB1:=Aside0.mk (Below.grown HB0.out hg1 (by have:=HB0.out.size;omega) (fun k hk=>by have:=HZ0.out;simp at hk;omega));clear hs1 hg1 HS0)
    | go_in)
  go_loopw [3,11] (fun v i wr=>echo_words.R k n w v i wr) (fun _ i _=>n - (intOf i).toNat)
  case atStart=>exact ⟨0,b0,[[]],[[]],rfl,Nat.zero_le _,rfl,HZ0.out,by simpa using HS1.out,by simp,rfl,List.Perm.refl _,HB1.out⟩
  case round =>
    clear HS1 HB1 HB0 HZ0
    obtain ⟨j,b,S,S0,rfl,hj,rfl,hb,hS,hnd,hf,hp,hB⟩:=hrel
    have HS:=Aside0.mk hS;have HND:=Aside0.mk hnd;have HF:=Aside0.mk hf;have HP:=Aside0.mk hp;have HB:=Aside0.mk hB;have HBB:=Aside0.mk hb;have HJ:=Aside0.mk hj
    clear hS hnd hf hp hB hb hj
    by_cases hlt:j < n
    · have hd1:decide (j < n)=true:=decide_eq_true hlt
      have hd2:decide ((j:Int) < (n:Int))=true:=decide_eq_true (by omega)
      have HL:=Aside0.mk hlt
      have hjb:(j:Int) ≤ 20:=by omega
      clear hlt
      go_wp2_with (first
        | ((with_reducible refine gate_dst (N:=13) rfl ?_);refine SetW.made_set _ rfl 65 9 4 rfl ?_;intro nb w2 hz2 hs2 hb2;have HN:=Aside0.mk hs2;have HB2:=Aside0.mk (below_step HB.out hb2);have HZN:Aside0 (w.heap.size ≤ nb∧b ≠ nb∧nb < w2.heap.size):=⟨by have:=HB.out.size;have:=HS.out.lt;have:=hs2.lt;omega⟩;have HS2:=Aside0.mk (HS.out.below hb2);clear hs2 hb2 hz2)
        | ((with_reducible refine gate_dst (N:=15) rfl ?_);refine SetW.range_set _ rfl (.tmp 14) 65 9 4 rfl Try.underlying9 Try.underlying65 b S rfl HS2.out ?_;intro r w3 hz3 hr3 hb3;have HR:=Aside0.mk hr3;have HN3:=Aside0.mk (HN.out.below hb3);have HB3:=Aside0.mk (below_step HB2.out hb3);have HZR:Aside0 (w.heap.size ≤ r∧r ≠ nb∧r ≠ b):=⟨by have:=HB2.out.size;have:=HZN.out;have:=hr3.ne;omega⟩;clear hr3 hb3 hz3)
        | go_in)
      go_frame
      obtain ⟨wo,rfl⟩:∃ wo:World,wo=wr:=⟨_,rfl⟩
      go_loopw [16] (fun _ wr=>echo_words.R2 k w b nb r S wr) (fun _ wr=>wr.rangeLeft b r)
      case atStart=>exact ⟨[],HR.out,HN3.out,List.nodup_nil,HB3.out⟩
      case round =>
        clear HR HN3 HB3 HS2 HN HB2
        obtain ⟨T,hR,hN,hnd,hB⟩:=hrel
        have HR:=Aside0.mk hR;have HN:=Aside0.mk hN;have HTD:=Aside0.mk hnd;have HB4:=Aside0.mk hB
        clear hR hN hnd hB
        go_wp2_with (first
          | (at_next;refine SetW.next_set _ rfl (.tmp 15) rfl 9 4 Try.underlying9 Try.underlying4 b r S T rfl HR.out (fun hall=>stop_ ?_) (fun s c w5 hsS hsT hr5 hl5 hg5 hz5 hen=>stop_ ?_))
          | go_in)
        · delta Stop
          have HA:=Aside0.mk hall
          clear hall
          go_wp2
          go_roundw
          case rel =>
            obtain ⟨ha,hl,hf1⟩:=echo_words.down H.out HL.out HF.out
            exact ⟨j + 1,nb,T.flatMap (echo_words.two k),S0.flatMap (echo_words.two k),by go_num,HL.out,rfl,HZN.out.1,HN.out,HTD.out,hf1,echo_words.perm2 HR.out.1 HND.out HR.out.2.1 HA.out HP.out k,HB4.out⟩
          case measure =>
            have:=HL.out
            simp [intOf];omega
        · delta Stop
          have HSS:=Aside0.mk hsS;have HST:=Aside0.mk hsT;have HR5:=Aside0.mk hr5;have HL5:=Aside0.mk hl5
          have HN5:=Aside0.mk (HN.out.heap (hg5.block nb HN.out.lt (by have:=HZR.out;simp;omega)))
          have HB5:=Aside0.mk (Below.grown HB4.out hg5 HB4.out.size (fun z hz=>by have:=HZR.out;simp at hz;omega))
          have HZ5:=Aside0.mk hz5
          clear hsS hsT hr5 hl5 hg5 hz5
          go_wp2_with (first
            | ((with_reducible refine gate_dst (N:=20) rfl ?_);refine lit_event ?hg (N:=20) ?hd (cs:=#[.string ⟨#[49]⟩,.string ⟨#[50]⟩]) (t:=9) (n:=2) (m:=2) ?hr ?_;(case hd=>rfl);(case hg=>rfl);(case hr=>first|(go_simp;done)|(go_simp;rfl));intro gc hz6 w6 hc6 hb6;have HC6:=Aside0.mk hc6;have HR6:=Aside0.mk (HR5.out.below hb6);have HN6:=Aside0.mk (HN5.out.below hb6);have HB6:=Aside0.mk (below_step HB5.out hb6);have HL6:Aside0 (w6.rangeLeft b r < wr.rangeLeft b r):=⟨by rw [SetW.left_heap (hb6.block b HR5.out.lt.1) (hb6.block r HR5.out.lt.2)];exact HL5.out⟩;have HZ6:Aside0 (w.heap.size ≤ gc∧gc ≠ nb):=⟨by have:=HB5.out.size;have:=HN5.out.lt;omega⟩;clear hc6 hb6 hz6)
            | go_in)
          clear hen
          obtain ⟨L,hL⟩:∃ L,w6.rangeLeft b r=L:=⟨_,rfl⟩
          have HLL:=Aside0.mk hL
          clear hL
          obtain ⟨wq,rfl⟩:∃ wq:World,wq=wr:=⟨_,rfl⟩
          go_loopw [22] (fun i wr=>echo_words.R3 k w b nb r gc L S T s i wr) (fun i _=>2 - (intOf i).toNat)
          case atStart=>exact ⟨0,.inl ⟨rfl,rfl⟩,HR6.out,by rw [echo_words.acc_start];exact HN6.out,by rw [echo_words.acc_start];exact HTD.out,HC6.out,HLL.out,HB6.out⟩
          case round =>
            obtain ⟨i,hi,hR,hN,hnd,hC,hL,hB⟩:=hrel
            have HR7:=Aside0.mk hR;have HN7:=Aside0.mk hN;have HT7:=Aside0.mk hnd;have HC7:=Aside0.mk hC;have HL7:=Aside0.mk hL;have HB7:=Aside0.mk hB
            clear hR hN hnd hC hL hB HR6 HN6 HC6 HB6 HN5 HR5 HB5
            rcases hi with ⟨rfl,rfl⟩|⟨rfl,rfl⟩|⟨rfl,rfl⟩
            · -- letter 49
              obtain ⟨⟨a49,e49⟩,a50,e50⟩:=echo_words.ext_of (echo_words.down H.out HL.out HF.out).1 (HP.out.mem_iff.1 HSS.out)
              obtain ⟨l,sm,hl,hsm,ha⟩:=echo_words.ext_val e49
              rw [echo_words.key] at hl
              have HLT:=Aside0.mk hl;have HSM:=Aside0.mk hsm;have HEX:Aside0 ((echo_words.ext k s.data.toList 49).getD []=if sm=true then [s.data.toList ++ [49]] else []):=⟨by rw [e49,← ha];rfl⟩
              clear e49 e50 ha hl hsm
              have hx0:wr.cell? ⟨gc,0,none⟩=some (.string ⟨#[49]⟩):=(blk_cell HC7.out 0).trans rfl
              have hbad:s.data.toList ++ [49] ∉ echo_words.acc k T s.data.toList 0:=echo_words.fresh HST.out 0 49 (by decide)
              have HFR:=Aside0.mk hbad
              clear hbad
              have HLE:=Aside0.mk (echo_words.room (k:=k) (s:=s.data.toList) (i:=0) HR.out.1 HR.out.2.1 HP.out (echo_words.down H.out HL.out HF.out).2.1)
              have HSL:=Aside0.mk (echo_words.small s 49 (echo_words.perm_len HF.out _ (HP.out.mem_iff.1 HSS.out)) HL.out hn)
              have hsh:=echo_words.short s (echo_words.perm_len HF.out _ (HP.out.mem_iff.1 HSS.out)) HL.out hn
              cases sm
              all_goals
                go_wp2_with (first
                  | (go_at_call 51;(with_reducible refine (echo_letters.calls k (s ++ ⟨#[49]⟩) l _ HLT.out).mono ?_);rintro e w8 ⟨v8,rfl,ho8,hb8⟩;have HO8:=Aside0.mk ho8;have HR8:=Aside0.mk (HR7.out.below hb8);have HN8:=Aside0.mk (HN7.out.below hb8);have HC8:=Aside0.mk (blk_below HC7.out hb8);have HL8:Aside0 (w8.rangeLeft b r=L):=⟨by rw [SetW.left_heap (hb8.block b HR7.out.lt.1) (hb8.block r HR7.out.lt.2)];exact HL7.out⟩;have HB8:=Aside0.mk (below_step HB7.out hb8);clear ho8 hb8;obtain ⟨A8,c8,eo8⟩:=Kd.R_slice HO8.out;subst eo8)
                  | (go_at_call 45;(with_reducible refine (echo_smooth.calls k A8 c8 l _ _ (Kd.R_reads' HO8.out).2.2 (Kd.R_reads' HO8.out).2.1 HSM.out).mono ?_);rintro e w9 ⟨rfl,hb9⟩;have HR9:=Aside0.mk (HR8.out.below hb9);have HN9:=Aside0.mk (HN8.out.below hb9);have HC9:=Aside0.mk (blk_below HC8.out hb9);have HL9:Aside0 (w9.rangeLeft b r=L):=⟨by rw [SetW.left_heap (hb9.block b HR8.out.lt.1) (hb9.block r HR8.out.lt.2)];exact HL8.out⟩;have HB9:=Aside0.mk (below_step HB8.out hb9);clear hb9)
                  | ((with_reducible refine gate_upd (t:=65) rfl ?_);refine SetW.update_set _ rfl (.tmp 31) (.tmp 34) (.const (.bool true)) 65 9 4 rfl Try.underlying9 Try.underlying4 Try.underlying65 nb _ rfl HN9.out HLE.out (s ++ ⟨#[49]⟩) rfl HSL.out true rfl (by rw [echo_words.str];exact HFR.out) ?_;intro w10 hs10 hg10;have HN10:=Aside0.mk hs10;have HR10:=Aside0.mk (HR9.out.heap (hg10.block b HR9.out.lt.1 (by have:=HZN.out;simp;omega)) (hg10.block r HR9.out.lt.2 (by have:=HZR.out;simp;omega)));have HC10:=Aside0.mk ((hg10.block gc (blk_lt HC9.out) (by have:=HZ6.out;simp;omega)).trans HC9.out);have HL10:Aside0 (w10.rangeLeft b r=L):=⟨by rw [SetW.left_heap (hg10.block b HR9.out.lt.1 (by have:=HZN.out;simp;omega)) (hg10.block r HR9.out.lt.2 (by have:=HZR.out;simp;omega))];exact HL9.out⟩;have HB10:=Aside0.mk (Below.grown HB9.out hg10 HB9.out.size (fun z hz=>by have:=HZN.out;simp at hz;omega));clear hs10 hg10))
              · go_roundw
                case rel=>exact ⟨1,.inr (.inl ⟨rfl,rfl⟩),HR9.out,by rw [echo_words.acc_one,HEX.out.trans (by simp:_=[]),List.append_nil];exact HN9.out,by rw [echo_words.acc_one,HEX.out.trans (by simp:_=[]),List.append_nil];exact HT7.out,HC9.out,HL9.out,HB9.out⟩
                case measure=>simp [intOf]
              · go_roundw
                case rel=>exact ⟨1,.inr (.inl ⟨rfl,rfl⟩),HR10.out,by rw [echo_words.acc_one,HEX.out.trans (by simp:_=[s.data.toList ++ [49]])];have h:=HN10.out;rw [echo_words.str] at h;exact h,by rw [echo_words.acc_one,HEX.out.trans (by simp:_=[s.data.toList ++ [49]])];exact nodup_snoc HT7.out HFR.out,HC10.out,HL10.out,HB10.out⟩
                case measure=>simp [intOf]
            · -- letter 50
              obtain ⟨⟨a49,e49⟩,a50,e50⟩:=echo_words.ext_of (echo_words.down H.out HL.out HF.out).1 (HP.out.mem_iff.1 HSS.out)
              obtain ⟨l,sm,hl,hsm,ha⟩:=echo_words.ext_val e50
              rw [echo_words.key] at hl
              have HLT:=Aside0.mk hl;have HSM:=Aside0.mk hsm;have HEX:Aside0 ((echo_words.ext k s.data.toList 50).getD []=if sm=true then [s.data.toList ++ [50]] else []):=⟨by rw [e50,← ha];rfl⟩
              clear e49 e50 ha hl hsm
              have hx1:wr.cell? ⟨gc,1,none⟩=some (.string ⟨#[50]⟩):=(blk_cell HC7.out 1).trans rfl
              have hbad:s.data.toList ++ [50] ∉ echo_words.acc k T s.data.toList 1:=echo_words.fresh HST.out 1 50 (by decide)
              have HFR:=Aside0.mk hbad
              clear hbad
              have HLE:=Aside0.mk (echo_words.room (k:=k) (s:=s.data.toList) (i:=1) HR.out.1 HR.out.2.1 HP.out (echo_words.down H.out HL.out HF.out).2.1)
              have HSL:=Aside0.mk (echo_words.small s 50 (echo_words.perm_len HF.out _ (HP.out.mem_iff.1 HSS.out)) HL.out hn)
              have hsh:=echo_words.short s (echo_words.perm_len HF.out _ (HP.out.mem_iff.1 HSS.out)) HL.out hn
              cases sm
              all_goals
                go_wp2_with (first
                  | (go_at_call 51;(with_reducible refine (echo_letters.calls k (s ++ ⟨#[50]⟩) l _ HLT.out).mono ?_);rintro e w8 ⟨v8,rfl,ho8,hb8⟩;have HO8:=Aside0.mk ho8;have HR8:=Aside0.mk (HR7.out.below hb8);have HN8:=Aside0.mk (HN7.out.below hb8);have HC8:=Aside0.mk (blk_below HC7.out hb8);have HL8:Aside0 (w8.rangeLeft b r=L):=⟨by rw [SetW.left_heap (hb8.block b HR7.out.lt.1) (hb8.block r HR7.out.lt.2)];exact HL7.out⟩;have HB8:=Aside0.mk (below_step HB7.out hb8);clear ho8 hb8;obtain ⟨A8,c8,eo8⟩:=Kd.R_slice HO8.out;subst eo8)
                  | (go_at_call 45;(with_reducible refine (echo_smooth.calls k A8 c8 l _ _ (Kd.R_reads' HO8.out).2.2 (Kd.R_reads' HO8.out).2.1 HSM.out).mono ?_);rintro e w9 ⟨rfl,hb9⟩;have HR9:=Aside0.mk (HR8.out.below hb9);have HN9:=Aside0.mk (HN8.out.below hb9);have HC9:=Aside0.mk (blk_below HC8.out hb9);have HL9:Aside0 (w9.rangeLeft b r=L):=⟨by rw [SetW.left_heap (hb9.block b HR8.out.lt.1) (hb9.block r HR8.out.lt.2)];exact HL8.out⟩;have HB9:=Aside0.mk (below_step HB8.out hb9);clear hb9)
                  | ((with_reducible refine gate_upd (t:=65) rfl ?_);refine SetW.update_set _ rfl (.tmp 31) (.tmp 34) (.const (.bool true)) 65 9 4 rfl Try.underlying9 Try.underlying4 Try.underlying65 nb _ rfl HN9.out HLE.out (s ++ ⟨#[50]⟩) rfl HSL.out true rfl (by rw [echo_words.str];exact HFR.out) ?_;intro w10 hs10 hg10;have HN10:=Aside0.mk hs10;have HR10:=Aside0.mk (HR9.out.heap (hg10.block b HR9.out.lt.1 (by have:=HZN.out;simp;omega)) (hg10.block r HR9.out.lt.2 (by have:=HZR.out;simp;omega)));have HC10:=Aside0.mk ((hg10.block gc (blk_lt HC9.out) (by have:=HZ6.out;simp;omega)).trans HC9.out);have HL10:Aside0 (w10.rangeLeft b r=L):=⟨by rw [SetW.left_heap (hg10.block b HR9.out.lt.1 (by have:=HZN.out;simp;omega)) (hg10.block r HR9.out.lt.2 (by have:=HZR.out;simp;omega))];exact HL9.out⟩;have HB10:=Aside0.mk (Below.grown HB9.out hg10 HB9.out.size (fun z hz=>by have:=HZN.out;simp at hz;omega));clear hs10 hg10))
              · go_roundw
                case rel=>exact ⟨2,.inr (.inr ⟨rfl,rfl⟩),HR9.out,by rw [echo_words.acc_two,HEX.out.trans (by simp:_=[]),List.append_nil];exact HN9.out,by rw [echo_words.acc_two,HEX.out.trans (by simp:_=[]),List.append_nil];exact HT7.out,HC9.out,HL9.out,HB9.out⟩
                case measure=>simp [intOf]
              · go_roundw
                case rel=>exact ⟨2,.inr (.inr ⟨rfl,rfl⟩),HR10.out,by rw [echo_words.acc_two,HEX.out.trans (by simp:_=[s.data.toList ++ [50]])];have h:=HN10.out;rw [echo_words.str] at h;exact h,by rw [echo_words.acc_two,HEX.out.trans (by simp:_=[s.data.toList ++ [50]])];exact nodup_snoc HT7.out HFR.out,HC10.out,HL10.out,HB10.out⟩
                case measure=>simp [intOf]
            · -- both letters are done
              go_wp2
              go_roundw
              case rel=>exact ⟨T ++ [s.data.toList],HR7.out,by rw [← echo_words.acc_end];exact HN7.out,by rw [← echo_words.acc_end];exact HT7.out,HB7.out⟩
              case measure=>rw [HL7.out,← HLL.out];exact HL6.out
    · have hd1:decide (j < n)=false:=decide_eq_false hlt
      have hd2:decide ((j:Int) < (n:Int))=false:=decide_eq_false (by omega)
      have HL:=Aside0.mk hlt
      clear hlt
      go_wp2
      go_ret
      have:=HJ.out;have:=HL.out
      obtain rfl:j=n:=by omega
      exact ⟨b,S,S0,rfl,HBB.out,HS.out,HND.out,HF.out,HP.out,HB.out⟩
theorem echo_words.ext_mono {k:Nat} {s:List UInt8} {x:UInt8}:LeO (echo_words.ext k s x) (echo_words.ext (k + 1) s x):=by
  unfold echo_words.ext
  exact LeO.bind (echo_letters.mono _ _) (fun l=>LeO.bind (echo_smooth.mono _ _) (fun b=>LeO.refl _))
theorem echo_words.mono_n (k:Nat):∀ n,LeO (echo_words.f k n) (echo_words.f (k + 1) n)
  | 0=>LeO.refl _
  | n + 1=>by
    rw [echo_words.f_succ,echo_words.f_succ]
    refine LeO.bind (echo_words.mono_n k n) (fun S=>?_)
    intro r hr
    split at hr
    · rename_i hc
      obtain ⟨h1,h2⟩:=hc
      have hx:∀ s ∈ S,echo_words.ext (k + 1) s 49=echo_words.ext k s 49∧echo_words.ext (k + 1) s 50=echo_words.ext k s 50:=fun s hs=>by
        obtain ⟨⟨a,ha⟩,b,hb⟩:=echo_words.ext_of h1 hs
        exact ⟨(echo_words.ext_mono _ ha).trans ha.symm,(echo_words.ext_mono _ hb).trans hb.symm⟩
      have ha:echo_words.all (k + 1) S=true:=by
        refine List.all_eq_true.2 (fun s hs=>?_)
        rw [(hx s hs).1,(hx s hs).2]
        exact List.all_eq_true.1 h1 s hs
      have ht:S.flatMap (echo_words.two (k + 1))=S.flatMap (echo_words.two k):=by
        have:∀ L:List (List UInt8),(∀ s ∈ L,s ∈ S) → L.flatMap (echo_words.two (k + 1))=L.flatMap (echo_words.two k):=fun L=>by
          induction L with
          | nil=>intro _;rfl
          | cons a L ih =>
            intro h
            rw [List.flatMap_cons,List.flatMap_cons,ih (fun s hs=>h s (by simp [hs]))]
            unfold echo_words.two
            rw [(hx a (h a (by simp))).1,(hx a (h a (by simp))).2]
        exact this S (fun _ h=>h)
      rw [if_pos ⟨ha,h2⟩,ht]
      exact hr
    · cases hr

end Go.Proofs.Ytploaicljkennaa.PW
