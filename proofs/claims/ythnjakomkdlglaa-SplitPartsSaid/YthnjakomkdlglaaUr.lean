/- The reference's FromBytes and ToAmount. No condition. -/
import Derived.Test.YthnjakomkdlglaaUm
namespace Go.Proofs.Ythnjakomkdlglaa
open Go.RowKit
end Go.Proofs.Ythnjakomkdlglaa
