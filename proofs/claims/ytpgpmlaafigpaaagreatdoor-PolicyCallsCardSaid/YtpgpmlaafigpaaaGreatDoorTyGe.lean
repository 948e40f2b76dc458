/- The data without fields. -/
import Derived.Test.YtpgpmlaafigpaaaGreatDoorTyG
namespace Go.L
open Go.AM
structure dO where
def gm(_:dO):List AVal:=[]
end Go.L
