import Derived.Shelf.Lay
import Derived.Shelf.LaySoft
import Derived.Shelf.Small.Strs
import Derived.Shelf.Strings.SlTrimAscii
import Derived.Shelf.Sort.Plain
import Derived.Shelf.Slices.In.SortNone
import Derived.Shelf.Strconv.Itoa3
import Derived.Shelf.Strings.OnBuilder
import Derived.Test.YtadlgemefhfejadGreatDoorProg
namespace Go.Proofs
open Go.Shelf
shelf_try shelf_lay Lays.n137 Nm 137 at Tryz as Tryz.lays137
shelf_try shelf_lay Lays.n160 Nm 160 at Tryz as Tryz.lays160
shelf_try shelf_lay Lays.n190 Nm 190 at Tryz as Tryz.lays190
shelf_try shelf_lay Lays.n106 Nm 106 at Tryz as Tryz.lays106
shelf_try shelf_lay Lays.n129 Nm 129 at Tryz as Tryz.lays129
shelf_try shelf_lay LaysM.n171 Nm 171 at Tryz as Tryz.laysM171
shelf_try shelf_lay Lays.n156 Nm 156 at Tryz as Tryz.lays156
shelf_tried
end Go.Proofs
