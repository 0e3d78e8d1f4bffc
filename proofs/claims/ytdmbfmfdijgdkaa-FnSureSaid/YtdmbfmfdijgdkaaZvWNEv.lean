import Derived.Test.YtdmbfmfdijgdkaaZvWN
namespace Go.Proofs.YtdmbfmfdijgdkaaW.PrintWords
open Go.RowKit
namespace Kd
end Kd
end Go.Proofs.YtdmbfmfdijgdkaaW.PrintWords
