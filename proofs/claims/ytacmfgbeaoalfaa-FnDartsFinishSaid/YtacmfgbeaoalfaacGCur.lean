/- The making of a cursor over bytes, as a function: the bytes, no place and no seed yet. No condition. -/
import Derived.Test.YtacmfgbeaoalfaaProg
namespace Go.Proofs.Ytacmfgbeaoalfaa
def mkCur.f (l : List Int) : Option (List Int × Int × Int) := some (l, 0, 0)
end Go.Proofs.Ytacmfgbeaoalfaa
