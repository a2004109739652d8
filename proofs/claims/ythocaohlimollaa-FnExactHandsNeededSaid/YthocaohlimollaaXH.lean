/- Contracts of functions of the given program, each for all arguments at which its Lean function answers; written by a program of this session (wip/xprint.py) over the print of the kit. -/
import Derived.Test.YthocaohlimollaaXH0
import Derived.Test.YthocaohlimollaaXH1
import Derived.Test.YthocaohlimollaaXH2
import Derived.Test.YthocaohlimollaaXH3
import Derived.Test.YthocaohlimollaaXH4
import Derived.Test.YthocaohlimollaaXH5
import Derived.Test.YthocaohlimollaaXH6
import Derived.Test.YthocaohlimollaaXH7
import Derived.Test.YthocaohlimollaaXH8
import Derived.Test.YthocaohlimollaaXH9
import Derived.Test.YthocaohlimollaaXH10
import Derived.Test.YthocaohlimollaaXH11
import Derived.Test.YthocaohlimollaaXH12
import Derived.Test.YthocaohlimollaaXH13
import Derived.Test.YthocaohlimollaaXH14
import Derived.Test.YthocaohlimollaaXH15
import Derived.Test.YthocaohlimollaaXH16
import Derived.Test.YthocaohlimollaaXH17
import Derived.Test.YthocaohlimollaaXH18
import Derived.Test.YthocaohlimollaaXH19
namespace Go.Proofs.Ythocaohlimollaa.XH
open Go.RowKit Go.Proofs.YthocaohlimollaaW.PrintWords Go.Proofs.YthocaohlimollaaW.PrintLast Go.Proofs.YthocaohlimollaaW.PrintMore
attribute [local go_sem] max2_int min2_int max_two min_two max_three min_three max_four min_four   -- for this text's walks alone
set_option linter.unusedVariables false
set_option linter.unusedSimpArgs false

end Go.Proofs.Ythocaohlimollaa.XH
