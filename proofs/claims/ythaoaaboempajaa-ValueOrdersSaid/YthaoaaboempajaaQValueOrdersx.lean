-- Lines written for this claim by a program of this session (wip/print). Lean checks them.
import Derived.Test.YthaoaaboempajaaQValueOrdersx0
import Derived.Test.YthaoaaboempajaaQValueOrdersx1
import Derived.Test.YthaoaaboempajaaQValueOrdersx2
import Derived.Test.YthaoaaboempajaaQValueOrdersx3
import Derived.Test.YthaoaaboempajaaQValueOrdersx4
import Derived.Test.YthaoaaboempajaaQValueOrdersx5
import Derived.Test.YthaoaaboempajaaQValueOrdersx6
import Derived.Test.YthaoaaboempajaaQValueOrdersx7
import Derived.Test.YthaoaaboempajaaQValueOrdersx8
namespace Go.Proofs.Ythaoaaboempajaa.QValueOrders
open Go.RowKit Go.Proofs.YthaoaaboempajaaW.PrintWords Go.Proofs.YthaoaaboempajaaW.PrintLast Go.Proofs.YthaoaaboempajaaW.PrintMore Go.Proofs.YthaoaaboempajaaX
attribute [local go_sem] max2_int min2_int max_two min_two max_three min_three max_four min_four   -- for this text's walks alone
set_option linter.unusedVariables false
set_option linter.unusedSimpArgs false

end Go.Proofs.Ythaoaaboempajaa.QValueOrders
