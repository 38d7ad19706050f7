/- Plain types, as a row reads them. -/
import Derived.Test.YthnilnggpbploaaGreatRows
import Derived.Test.YthnilnggpbploaaGreatOpen
namespace Go.Proofs.YthnilnggpbploaaGreat
open Go.RowKit

theorem opnInt : Opn Tryz.prog 3 Int := opn_i64 Tryz.underlying3
end Go.Proofs.YthnilnggpbploaaGreat
