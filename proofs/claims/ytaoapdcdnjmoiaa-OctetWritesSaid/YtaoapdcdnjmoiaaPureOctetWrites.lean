/- OctetWrites: Var, Text and Eight write what the document's answer writes, at two turns, and what was handed in stays as it was. The proof is the walk itself; nothing is left to be said here. -/
import Derived.Test.YtaoapdcdnjmoiaaProg
namespace Go.Proofs.Ytaoapdcdnjmoiaa.Pure
theorem OctetWrites : True := trivial
end Go.Proofs.Ytaoapdcdnjmoiaa.Pure
