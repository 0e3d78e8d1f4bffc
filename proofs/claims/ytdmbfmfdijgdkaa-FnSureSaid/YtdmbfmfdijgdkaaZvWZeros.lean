import Derived.Test.YtdmbfmfdijgdkaaZvWApart
import Derived.Test.YtdmbfmfdijgdkaaZvWArr
namespace Go.Proofs.YtdmbfmfdijgdkaaW.PrintWords
open Go.RowKit
namespace Kd
end Kd
end Go.Proofs.YtdmbfmfdijgdkaaW.PrintWords
