/- What came in reads as the print's kinds: this seat's types. No condition. -/
import Derived.Test.YtbnbokiiakampaaOpen
import Derived.Test.YtbnbokiiakampaaP
namespace Go.Proofs.Ytbnbokiiakampaa.Rd
open Go.RowKit Go.Proofs.Ytbnbokiiakampaa.Open Go.Proofs.Ytbnbokiiakampaa.P Go.Proofs.YtbnbokiiakampaaW.PrintWords

end Go.Proofs.Ytbnbokiiakampaa.Rd
