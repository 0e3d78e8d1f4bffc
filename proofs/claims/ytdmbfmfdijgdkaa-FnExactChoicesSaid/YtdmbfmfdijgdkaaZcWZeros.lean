import Derived.Test.YtdmbfmfdijgdkaaZcWApart
import Derived.Test.YtdmbfmfdijgdkaaZcWArr
namespace Go.Proofs.YtdmbfmfdijgdkaaW.PrintWords
open Go.RowKit
namespace Kd
end Kd
end Go.Proofs.YtdmbfmfdijgdkaaW.PrintWords
