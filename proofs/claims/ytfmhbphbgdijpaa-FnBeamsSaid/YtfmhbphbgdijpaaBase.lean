/- cells that a call keeps -/
import Derived.WalkKit
import Derived.WalkSpells
set_option linter.unusedVariables false
set_option linter.unusedSimpArgs false
namespace Go.Proofs.Ytfmhbphbgdijpaa
open Go.RowKit

theorem later {w w2 : World} {a : Addr} {v : Value} (hb : Below w.heap.size w w2) (h : w.cell? a = some v) : w2.cell? a = some v :=
  (hb.cell (World.block_lt_of_cell? w a h)).trans h
theorem laterF {w w2 : World} {a : Addr} {v : Value} (hb : Below w.heap.size w w2) (h : w.cell? a = some v) (hf : w.frozen? a = false) : w2.frozen? a = false :=
  (hb.frozen (World.block_lt_of_cell? w a h)).trans hf

end Go.Proofs.Ytfmhbphbgdijpaa
