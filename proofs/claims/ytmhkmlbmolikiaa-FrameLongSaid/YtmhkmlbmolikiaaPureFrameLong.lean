/- FrameLong: how long a frame may be, and what a nil reader, and a zero one, answers, for every input. The proof is the walk itself; nothing is left to be said here. -/
import Derived.Test.YtmhkmlbmolikiaaProg
namespace Go.Proofs.Ytmhkmlbmolikiaa.Pure
theorem FrameLong : True := trivial
end Go.Proofs.Ytmhkmlbmolikiaa.Pure
