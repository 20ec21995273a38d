/- What the row of the law needs of the printed and the plain texts. -/
import Derived.Ground.Names2Prog
import Derived.Shelf.Slices.Clone
import Derived.Ground.SlgnProg
import Derived.Shelf.SlicesE.Clone
import Derived.Test.YtomcapflpephmaaProg
namespace Go.Proofs
open Go.Shelf
end Go.Proofs
