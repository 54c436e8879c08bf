/- Texts of this seat that the law stands on, put together. No conditions. -/
import Derived.Shelf.SlSortCmp.WholeK
import Derived.Shelf.SlicesG.Cmp
import Derived.Shelf.Small.Bits
import Derived.Shelf.Lay
import Derived.Ground.SlsfProg
import Derived.Ground.SlgcProg
import Derived.Test.YtfkohliggbajkaaW9
section
namespace Go.Proofs.Ytfkohliggbajkaa
open Go.Shelf Go.RowKit Go.Lib Go.Sort Go.Proofs
shelf_lay_g SlLaysF0.n6 Slsf 6 at Try 62 as sortPt
shelf_lay_g SlLaysC2.n5 Slgc 5 at Try 69 as cmpI64
end Go.Proofs.Ytfkohliggbajkaa
end
