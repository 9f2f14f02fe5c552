/- What came in reads as the print's kinds: this seat's types. No condition. -/
import Derived.Test.YtifgjihjcloloaaOpen
import Derived.Test.YtifgjihjcloloaaP
namespace Go.Proofs.Ytifgjihjcloloaa.Rd
open Go.RowKit Go.Proofs.Ytifgjihjcloloaa.Open Go.Proofs.Ytifgjihjcloloaa.P Go.Proofs.YtifgjihjcloloaaW.PrintWords

end Go.Proofs.Ytifgjihjcloloaa.Rd
