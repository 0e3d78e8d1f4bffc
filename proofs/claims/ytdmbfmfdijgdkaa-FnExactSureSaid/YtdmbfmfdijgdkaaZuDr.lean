import Derived.Test.YtdmbfmfdijgdkaaZuBa
import Derived.Test.YtdmbfmfdijgdkaaZuPx0
import Derived.Test.YtdmbfmfdijgdkaaZuPx7
namespace Go.Proofs.Ytdmbfmfdijgdkaa.Pu
open Go.RowKit Go.Proofs.Ytdmbfmfdijgdkaa.Px Go.Proofs.YtdmbfmfdijgdkaaW.PrintWords Go.Proofs.YtdmbfmfdijgdkaaW.PrintLast
set_option linter.unusedVariables false
end Go.Proofs.Ytdmbfmfdijgdkaa.Pu
