/- OctetReads: TakeVar, TakeText and TakeEight tell what the document's answer tells, for all bytes up to 2^16 (beyond them the law answers true by itself) and every bound; what was handed in, its spare room too, is as it was. The proof is the walk itself; nothing is left to be said here. -/
import Derived.Test.YtaoapdcdnjmoiaaProg
namespace Go.Proofs.Ytaoapdcdnjmoiaa.Pure
theorem OctetReads : True := trivial
end Go.Proofs.Ytaoapdcdnjmoiaa.Pure
