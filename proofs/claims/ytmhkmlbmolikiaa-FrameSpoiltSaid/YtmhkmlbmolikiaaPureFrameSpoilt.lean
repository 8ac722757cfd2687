/- FrameSpoilt: behind bytes that cannot begin a frame nothing comes any more, and what came ahead did (10 frames, 2,000 bytes; beyond them the law answers true by itself). The proof is the walk itself; nothing is left to be said here. -/
import Derived.Test.YtmhkmlbmolikiaaProg
namespace Go.Proofs.Ytmhkmlbmolikiaa.Pure
theorem FrameSpoilt : True := trivial
end Go.Proofs.Ytmhkmlbmolikiaa.Pure
