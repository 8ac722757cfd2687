/- OctetHex: bytes are shown as the document's answer shows them, texts are read as it reads them, and what is shown is read back; for at most 1,000 bytes of each (beyond them the law answers true by itself). The proof is the walk itself; nothing is left to be said here. -/
import Derived.Test.YtaoapdcdnjmoiaaProg
namespace Go.Proofs.Ytaoapdcdnjmoiaa.Pure
theorem OctetHex : True := trivial
end Go.Proofs.Ytaoapdcdnjmoiaa.Pure
