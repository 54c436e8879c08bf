import Derived.Test.YtlkamicaoljefaaEnv
import Derived.Shelf.SlSortCmp.WholeK
import Derived.Shelf.SlicesG.Cmp
import Derived.Shelf.Small.Bits
import Derived.Shelf.Lay
import Derived.Ground.SlsfProg
import Derived.Ground.SlgcProg
namespace Go.Proofs.Ytlkamicaoljefaa
open Go.Shelf Go.RowKit Go.Lib Go.Sort Go.Proofs
shelf_lay_g SlLaysF0.n6 Slsf 6 at Try 118 as sortPt
shelf_lay_g SlLaysC2.n5 Slgc 5 at Try 125 as cmpI64
end Go.Proofs.Ytlkamicaoljefaa
