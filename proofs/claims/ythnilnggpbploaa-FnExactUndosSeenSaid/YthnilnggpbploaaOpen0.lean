/- Plain types, as a row reads them. -/
import Derived.Test.YthnilnggpbploaaRows
import Derived.Test.YthnilnggpbploaaOpen
namespace Go.Proofs.Ythnilnggpbploaa
open Go.RowKit

theorem opnInt : Opn Try.prog 3 Int := opn_i64 Try.underlying3
end Go.Proofs.Ythnilnggpbploaa
