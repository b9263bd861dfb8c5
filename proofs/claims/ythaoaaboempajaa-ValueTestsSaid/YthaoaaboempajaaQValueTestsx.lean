-- Lines written for this claim by a program of this session (wip/print). Lean checks them.
import Derived.Test.YthaoaaboempajaaQValueTestsx0
import Derived.Test.YthaoaaboempajaaQValueTestsx1
import Derived.Test.YthaoaaboempajaaQValueTestsx2
import Derived.Test.YthaoaaboempajaaQValueTestsx3
import Derived.Test.YthaoaaboempajaaQValueTestsx4
import Derived.Test.YthaoaaboempajaaQValueTestsx5
import Derived.Test.YthaoaaboempajaaQValueTestsx6
import Derived.Test.YthaoaaboempajaaQValueTestsx7
import Derived.Test.YthaoaaboempajaaQValueTestsx8
import Derived.Test.YthaoaaboempajaaQValueTestsx9
namespace Go.Proofs.Ythaoaaboempajaa.QValueTests
open Go.RowKit Go.Proofs.YthaoaaboempajaaW.PrintWords Go.Proofs.YthaoaaboempajaaW.PrintLast Go.Proofs.YthaoaaboempajaaW.PrintMore Go.Proofs.YthaoaaboempajaaX
attribute [local go_sem] max2_int min2_int max_two min_two max_three min_three max_four min_four   -- for this text's walks alone
set_option linter.unusedVariables false
set_option linter.unusedSimpArgs false

end Go.Proofs.Ythaoaaboempajaa.QValueTests
