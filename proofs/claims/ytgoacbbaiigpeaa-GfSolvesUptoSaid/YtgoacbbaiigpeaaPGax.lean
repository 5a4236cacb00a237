/- Laid by a program of this session (myprint.py): Go functions as Lean functions, each with the proof that the machine comes to just these answers. -/
import Derived.Test.YtgoacbbaiigpeaaPGax0
import Derived.Test.YtgoacbbaiigpeaaPGax1
import Derived.Test.YtgoacbbaiigpeaaPGax2
import Derived.Test.YtgoacbbaiigpeaaPGax3
import Derived.Test.YtgoacbbaiigpeaaPGax4
namespace Go.Proofs.Ytgoacbbaiigpeaa.PGa
open Go.RowKit Go.Proofs.YtgoacbbaiigpeaaW.PrintWords Go.Proofs.YtgoacbbaiigpeaaW.PrintLast Go.Proofs.YtgoacbbaiigpeaaW.PrintMore
attribute [local go_sem] max2_int min2_int max_two min_two max_three min_three max_four min_four   -- for this text's walks alone
set_option linter.unusedVariables false
set_option linter.unusedSimpArgs false

end Go.Proofs.Ytgoacbbaiigpeaa.PGa
