/- The reference's FromBytes and ToAmount. No condition. tallageref09.ToAmount. No condition. -/
import Derived.Test.YtabminbgoclnkaaGreatVkUn
import Derived.Test.YtabminbgoclnkaaGreatVk9
namespace Go.Proofs.YtabminbgoclnkaaGreat
section
open Go.RowKit
end
section
open Go.RowKit
end
end Go.Proofs.YtabminbgoclnkaaGreat
