/- Short words for what every walk says again and again. -/
import Derived.Test.YtkonljiembcdlaaMyWords
set_option linter.unusedVariables false
namespace Go.Proofs.MyWords
open Go.RowKit Go.Proofs.YtkonljiembcdlaaW.PrintWords Go.Proofs.YtkonljiembcdlaaW.PrintMore
theorem nlt {w:World} {g g':Nat} {o:Obj} (hg:g'=w.heap.size) (h:Aside0 (w.heap[g]?=some o)):Aside0 (g ≠ g'):=⟨by rw [hg];exact Nat.ne_of_lt (blk_lt h.out)⟩
theorem ngt {w:World} {g g':Nat} {o:Obj} (hg:g'=w.heap.size) (h:Aside0 (w.heap[g]?=some o)):Aside0 (g' ≠ g):=⟨by rw [hg];exact Nat.ne_of_gt (blk_lt h.out)⟩
theorem mk0 {p:Prop} (h:p):Aside0 p:=⟨h⟩
theorem szw {w W:World} {g:Nat} (hg:g=W.heap.size) (h:Aside0 (Below w.heap.size w W)):Aside0 (w.heap.size ≤ g):=⟨by rw [hg];exact below_size h.out⟩
theorem bkb {w w1:World} {g:Nat} {o:Obj} (h:Aside0 (w.heap[g]?=some o)) (hb:Below w.heap.size w w1):Aside0 (w1.heap[g]?=some o):=⟨blk_below h.out hb⟩
theorem bst {w W w2:World} (h:Aside0 (Below w.heap.size w W)) (k:Below W.heap.size W w2):Aside0 (Below w.heap.size w w2):=⟨below_step h.out k⟩
section
variable {α:Type} {d:Kd α} {e base:Nat} {w w1:World} {ok:Nat → Prop} {v:Value} {xs:List α}
theorem rbl (h:Aside0 (d.R e w base ok v xs)) (hb:Below w.heap.size w w1):Aside0 (d.R e w1 base ok v xs):=⟨Kd.R_below h.out hb⟩
theorem rdr (h:Aside0 (d.R e w base ok v xs)):Aside0 (d.R e w.drew base ok v xs):=⟨Kd.R_drew h.out⟩
end
theorem bdr {w:World} {g:Nat} {o:Obj} (h:Aside0 (w.heap[g]?=some o)):Aside0 (w.drew.heap[g]?=some o):=⟨blk_drew h.out⟩
theorem hdr {w W:World} (h:Aside0 (Below w.heap.size w W)):Aside0 (Below w.heap.size w W.drew):=⟨below_drew1 h.out⟩
section
variable {w:World} {g:Nat} {t:TypeId} {a b c d:Value} {l:List Value}
end
abbrev y_:Bool:=true
theorem f4_ {w:World} {g p i a b c d:Nat} {s t u v x} (h:Aside0 (g ≠ p)) (e:w.cell? ⟨g,i,none⟩=x):((((w.setCell ⟨p,a,none⟩ s).setCell ⟨p,b,none⟩ t).setCell ⟨p,c,none⟩ u).setCell ⟨p,d,none⟩ v).cell? ⟨g,i,none⟩=x :=
  (cell_far (p:=⟨p,_,none⟩) h.out _).trans ((cell_far (p:=⟨p,_,none⟩) h.out _).trans ((cell_far (p:=⟨p,_,none⟩) h.out _).trans ((cell_far (p:=⟨p,_,none⟩) h.out _).trans e)))
section
variable {a b c d g r s:Prop}
theorem h_ (k:r → s) (h:g∧r):g∧s:=⟨h.1,k h.2⟩
end
end Go.Proofs.MyWords
