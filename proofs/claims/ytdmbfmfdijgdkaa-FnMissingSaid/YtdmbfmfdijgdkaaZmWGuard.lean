import Derived.Test.YtdmbfmfdijgdkaaZmWWords
namespace Go.Proofs.YtdmbfmfdijgdkaaW.PrintWords
open Go.RowKit
end Go.Proofs.YtdmbfmfdijgdkaaW.PrintWords
