/- Plain types, as a row reads them. -/
import Derived.Test.YthljmpkehldccaaGreatRows
import Derived.Test.YthljmpkehldccaaGreatOpen
namespace Go.Proofs.YthljmpkehldccaaGreat
open Go.RowKit

theorem opnInt : Opn Tryz.prog 3 Int := opn_i64 Tryz.underlying3
end Go.Proofs.YthljmpkehldccaaGreat
