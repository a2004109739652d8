/- Contracts of functions of the given program, each for all arguments at which its Lean function answers; written by a program of this session (wip/xprint.py) over the print of the kit. -/
import Derived.Test.YthocaohlimollaaXI0
import Derived.Test.YthocaohlimollaaXI1
import Derived.Test.YthocaohlimollaaXI2
import Derived.Test.YthocaohlimollaaXI3
import Derived.Test.YthocaohlimollaaXI4
import Derived.Test.YthocaohlimollaaXI5
import Derived.Test.YthocaohlimollaaXI6
import Derived.Test.YthocaohlimollaaXI7
import Derived.Test.YthocaohlimollaaXI8
import Derived.Test.YthocaohlimollaaXI9
import Derived.Test.YthocaohlimollaaXI10
import Derived.Test.YthocaohlimollaaXI11
import Derived.Test.YthocaohlimollaaXI12
import Derived.Test.YthocaohlimollaaXI13
import Derived.Test.YthocaohlimollaaXI14
import Derived.Test.YthocaohlimollaaXI15
import Derived.Test.YthocaohlimollaaXI16
import Derived.Test.YthocaohlimollaaXI17
import Derived.Test.YthocaohlimollaaXI18
namespace Go.Proofs.Ythocaohlimollaa.XI
open Go.RowKit Go.Proofs.YthocaohlimollaaW.PrintWords Go.Proofs.YthocaohlimollaaW.PrintLast Go.Proofs.YthocaohlimollaaW.PrintMore
attribute [local go_sem] max2_int min2_int max_two min_two max_three min_three max_four min_four   -- for this text's walks alone
set_option linter.unusedVariables false
set_option linter.unusedSimpArgs false

end Go.Proofs.Ythocaohlimollaa.XI
