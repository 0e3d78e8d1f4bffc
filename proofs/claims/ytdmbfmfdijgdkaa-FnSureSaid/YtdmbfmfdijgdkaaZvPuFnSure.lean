import Derived.Test.YtdmbfmfdijgdkaaZvStFnSure
import Derived.Test.YtdmbfmfdijgdkaaZvSu
namespace Go.Proofs.Ytdmbfmfdijgdkaa.Pu
open Go.RowKit Go.Proofs.Ytdmbfmfdijgdkaa.Px Go.Proofs.YtdmbfmfdijgdkaaW.PrintWords Go.Proofs.YtdmbfmfdijgdkaaW.PrintLast
set_option linter.unusedVariables false
theorem FnSure : laws_FnSure.Pure := by
  intro b ⟨h1, h2, h3⟩
  exact Lt.get (Lt.of (sure_law b (by omega))) fun _ e => e
end Go.Proofs.Ytdmbfmfdijgdkaa.Pu
