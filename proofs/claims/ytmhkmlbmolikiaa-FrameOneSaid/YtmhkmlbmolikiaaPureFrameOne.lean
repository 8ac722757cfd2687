/- FrameOne: bytes that come one by one tell what they tell at once, and what waits between is one byte more, or nothing when a frame came (up to 400 bytes; beyond them the law answers true by itself). The proof is the walk itself; nothing is left to be said here. -/
import Derived.Test.YtmhkmlbmolikiaaProg
namespace Go.Proofs.Ytmhkmlbmolikiaa.Pure
theorem FrameOne : True := trivial
end Go.Proofs.Ytmhkmlbmolikiaa.Pure
