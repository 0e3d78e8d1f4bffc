import Derived.Lib.SlicesCompact
namespace Go.Proofs.Ytdmbfmfdijgdkaa.Px
open Go.Lib
end Go.Proofs.Ytdmbfmfdijgdkaa.Px
