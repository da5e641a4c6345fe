/- Still smaller words: short forms of rows that the printed walks repeat. -/
import Derived.Test.YtkonljiembcdlaaMyShort
import Derived.Below
namespace Go.Proofs.MyWords
open Go.RowKit Go.Proofs.YtkonljiembcdlaaW.PrintWords Go.Proofs.YtkonljiembcdlaaW.PrintMore
theorem nb_ {w : World} {a : Addr} {i g : Nat} {v : Value} (h : w.cell? (a.add i) = some v) (hb : w.heap.size ≤ g) : a.block ≠ g := by
  have := World.block_lt_of_cell? _ _ h
  rw [add_block] at this
  omega
theorem nc_ {w : World} {a : Addr} {g : Nat} {v : Value} (h : w.cell? a = some v) (hb : w.heap.size ≤ g) : a.block ≠ g := Nat.ne_of_lt (Nat.lt_of_lt_of_le (World.block_lt_of_cell? _ _ h) hb)
theorem bd_ {w w' : World} {a : Addr} {v : Value} (hb : Aside0 (Below w.heap.size w w')) (h : w.cell? a = some v) : w'.cell? a = some v := (hb.out.cell (World.block_lt_of_cell? _ _ h)).trans h
end Go.Proofs.MyWords
