/- The data of the reference of neigh. -/
import Derived.Test.YtiohninblcifpaaGreatDoorTy
namespace Go.L
open Go.AM
structure az where
 k:Known
 cG:Bool
 time:Int
 seq:Int
 eC:Bool
 next:Int
def af(x:az):List AVal:=[.sc (.int .i64 x.k.BD),.sc (.int .u32 x.k.IP),.sc (.int .u64 x.k.bN),.sc (.bool x.cG),.sc (.int .i64 x.time),.sc (.int .u32 x.seq),.sc (.bool x.eC),.sc (.int .u32 x.next)]
end Go.L
