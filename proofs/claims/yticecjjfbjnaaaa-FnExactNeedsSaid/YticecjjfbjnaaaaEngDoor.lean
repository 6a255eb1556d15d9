/- A seat without a door: nothing is asked of the world. -/
import Derived.Test.YticecjjfbjnaaaaEngM7
namespace Go.Proofs.Yticecjjfbjnaaaa
open Go
def LaidX (_ : World) : Prop := True
end Go.Proofs.Yticecjjfbjnaaaa
