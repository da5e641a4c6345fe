/- Short words for what every walk says again and again. -/
import Derived.Test.YtkonljiembcdlaaMyWords
set_option linter.unusedVariables false
namespace Go.Proofs.MyWords
open Go.RowKit Go.Proofs.YtkonljiembcdlaaW.PrintWords Go.Proofs.YtkonljiembcdlaaW.PrintMore
/-- Short words for what every walk says again and again. -/
theorem nlt {w : World} {g g' : Nat} {o : Obj} (hg : g' = w.heap.size) (h : Aside0 (w.heap[g]? = some o)) : Aside0 (g ≠ g') := ⟨by rw [hg]; exact Nat.ne_of_lt (blk_lt h.out)⟩
theorem ngt {w : World} {g g' : Nat} {o : Obj} (hg : g' = w.heap.size) (h : Aside0 (w.heap[g]? = some o)) : Aside0 (g' ≠ g) := ⟨by rw [hg]; exact Nat.ne_of_gt (blk_lt h.out)⟩
theorem mk0 {p : Prop} (h : p) : Aside0 p := ⟨h⟩
theorem szw {w W : World} {g : Nat} (hg : g = W.heap.size) (h : Aside0 (Below w.heap.size w W)) : Aside0 (w.heap.size ≤ g) := ⟨by rw [hg]; exact below_size h.out⟩
theorem bkb {w w1 : World} {g : Nat} {o : Obj} (h : Aside0 (w.heap[g]? = some o)) (hb : Below w.heap.size w w1) : Aside0 (w1.heap[g]? = some o) := ⟨blk_below h.out hb⟩
theorem bst {w W w2 : World} (h : Aside0 (Below w.heap.size w W)) (k : Below W.heap.size W w2) : Aside0 (Below w.heap.size w w2) := ⟨below_step h.out k⟩
section
variable {α : Type} {d : Kd α} {e base : Nat} {w w1 : World} {ok : Nat → Prop} {v : Value} {xs : List α}
theorem rbl (h : Aside0 (d.R e w base ok v xs)) (hb : Below w.heap.size w w1) : Aside0 (d.R e w1 base ok v xs) := ⟨Kd.R_below h.out hb⟩
theorem rdr (h : Aside0 (d.R e w base ok v xs)) : Aside0 (d.R e w.drew base ok v xs) := ⟨Kd.R_drew h.out⟩
end
theorem bdr {w : World} {g : Nat} {o : Obj} (h : Aside0 (w.heap[g]? = some o)) : Aside0 (w.drew.heap[g]? = some o) := ⟨blk_drew h.out⟩
theorem hdr {w W : World} (h : Aside0 (Below w.heap.size w W)) : Aside0 (Below w.heap.size w W.drew) := ⟨below_drew1 h.out⟩
theorem bkn {w w1 : World} {g n : Nat} {o : Obj} (h : Aside0 (w.heap[g]? = some o)) (hb : Below (w.drewN n).heap.size (w.drewN n) w1) : Aside0 (w1.heap[g]? = some o) := ⟨blk_below (blk_drewN h.out n) hb⟩
theorem s0_ {α : Type} {l : List α} {i : Nat} {a : α} : l.toArray.setIfInBounds i a = (l.set i a).toArray := List.setIfInBounds_toArray _ _ _
theorem s1_ {α : Type} {x : α} {l : List α} {a : α} : (x :: l).set 0 a = a :: l := rfl
theorem s2_ {α : Type} {x : α} {l : List α} {a : α} {n : Nat} : (x :: l).set (n + 1) a = x :: l.set n a := rfl
theorem m0_ {α β : Type} {f : α → β} {l : List α} : l.toArray.map f = (l.map f).toArray := List.map_toArray
theorem m1_ {α β : Type} {f : α → β} {a : α} {l : List α} : (a :: l).map f = f a :: l.map f := rfl
theorem m2_ {α β : Type} {f : α → β} : [].map f = [] := rfl
theorem l0_ {α : Type} {i : Nat} {l : List α} : (l.drop i).length = l.length - i := List.length_drop
theorem l1_ {α : Type} {i : Nat} {l : List α} : (l.take i).length = min i l.length := List.length_take
section
variable {w : World} {g : Nat} {t : TypeId} {a b c d : Value} {l : List Value}
theorem q0_ (h : Aside0 (w.heap[g]? = some (.cells (List.toArray (a :: l)) t (0, 0)))) : w.cell? ⟨g, 0, none⟩ = some a := (blk_cell h.out 0).trans rfl
theorem q1_ (h : Aside0 (w.heap[g]? = some (.cells (List.toArray (a :: b :: l)) t (0, 0)))) : w.cell? ⟨g, 1, none⟩ = some b := (blk_cell h.out 1).trans rfl
theorem q2_ (h : Aside0 (w.heap[g]? = some (.cells (List.toArray (a :: b :: c :: l)) t (0, 0)))) : w.cell? ⟨g, 2, none⟩ = some c := (blk_cell h.out 2).trans rfl
theorem q3_ (h : Aside0 (w.heap[g]? = some (.cells (List.toArray (a :: b :: c :: d :: l)) t (0, 0)))) : w.cell? ⟨g, 3, none⟩ = some d := (blk_cell h.out 3).trans rfl
end
abbrev Q4_ (w : World) (g : Nat) (a b c d : Int) (t : TypeId) : Prop := w.heap[g]? = some (.cells #[.int .i64 a, .int .i64 b, .int .i64 c, .int .i64 d] t (0, 0))
abbrev y_ : Bool := true
abbrev n_ : Bool := false
theorem f4_ {w : World} {g p i a b c d : Nat} {s t u v x} (h : Aside0 (g ≠ p)) (e : w.cell? ⟨g, i, none⟩ = x) : ((((w.setCell ⟨p, a, none⟩ s).setCell ⟨p, b, none⟩ t).setCell ⟨p, c, none⟩ u).setCell ⟨p, d, none⟩ v).cell? ⟨g, i, none⟩ = x :=
  (cell_far (p := ⟨p, _, none⟩) h.out _).trans ((cell_far (p := ⟨p, _, none⟩) h.out _).trans ((cell_far (p := ⟨p, _, none⟩) h.out _).trans ((cell_far (p := ⟨p, _, none⟩) h.out _).trans e)))
section
variable {a b c d g r s : Prop}
theorem l_ (h : a) : Aside0 a := ⟨h⟩
theorem m_ (k : r → s) (h : a ∧ r) : Aside0 a ∧ s := ⟨⟨h.1⟩, k h.2⟩
theorem m4_ (k : r → s) (h : a ∧ b ∧ c ∧ d ∧ r) : Aside0 a ∧ Aside0 b ∧ Aside0 c ∧ Aside0 d ∧ s := ⟨⟨h.1⟩, ⟨h.2.1⟩, ⟨h.2.2.1⟩, ⟨h.2.2.2.1⟩, k h.2.2.2.2⟩
theorem h_ (k : r → s) (h : g ∧ r) : g ∧ s := ⟨h.1, k h.2⟩
end
end Go.Proofs.MyWords
