-- Lines written for this claim by a program of this session (wip/print). Lean checks them.
import Derived.Test.YthaoaaboempajaaQValueLawsx0
import Derived.Test.YthaoaaboempajaaQValueLawsx1
import Derived.Test.YthaoaaboempajaaQValueLawsx2
import Derived.Test.YthaoaaboempajaaQValueLawsx3
import Derived.Test.YthaoaaboempajaaQValueLawsx4
namespace Go.Proofs.Ythaoaaboempajaa.QValueLaws
open Go.RowKit Go.Proofs.YthaoaaboempajaaW.PrintWords Go.Proofs.YthaoaaboempajaaW.PrintLast Go.Proofs.YthaoaaboempajaaW.PrintMore Go.Proofs.YthaoaaboempajaaX
attribute [local go_sem] max2_int min2_int max_two min_two max_three min_three max_four min_four   -- for this text's walks alone
set_option linter.unusedVariables false
set_option linter.unusedSimpArgs false

end Go.Proofs.Ythaoaaboempajaa.QValueLaws
