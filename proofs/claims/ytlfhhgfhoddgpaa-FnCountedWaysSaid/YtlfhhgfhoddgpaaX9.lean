/- Texts of this seat that the law stands on, put together. No conditions. -/
import Derived.Shelf.SlSortCmp.WholeK
import Derived.Shelf.SlicesG.Cmp
import Derived.Shelf.Small.Bits
import Derived.Shelf.Lay
import Derived.Ground.SlsfProg
import Derived.Ground.SlgcProg
import Derived.Test.YtlfhhgfhoddgpaaX8
section
namespace Go.Proofs.Ytlfhhgfhoddgpaa
open Go.Shelf Go.RowKit Go.Lib Go.Sort Go.Proofs
shelf_lay_g SlLaysF0.n6 Slsf 6 at Try 44 as sortPt
shelf_lay_g SlLaysC2.n5 Slgc 5 at Try 53 as cmpI64
end Go.Proofs.Ytlfhhgfhoddgpaa
end
