/- Contracts of functions of the given program, each for all arguments at which its Lean function answers; written by a program of this session (wip/xprint.py) over the print of the kit. -/
import Derived.Test.YthocaohlimollaaXB0
import Derived.Test.YthocaohlimollaaXB1
import Derived.Test.YthocaohlimollaaXB2
import Derived.Test.YthocaohlimollaaXB3
import Derived.Test.YthocaohlimollaaXB4
import Derived.Test.YthocaohlimollaaXB5
import Derived.Test.YthocaohlimollaaXB6
import Derived.Test.YthocaohlimollaaXB7
import Derived.Test.YthocaohlimollaaXB8
import Derived.Test.YthocaohlimollaaXB9
import Derived.Test.YthocaohlimollaaXB10
import Derived.Test.YthocaohlimollaaXB11
import Derived.Test.YthocaohlimollaaXB12
import Derived.Test.YthocaohlimollaaXB13
import Derived.Test.YthocaohlimollaaXB14
import Derived.Test.YthocaohlimollaaXB15
import Derived.Test.YthocaohlimollaaXB16
import Derived.Test.YthocaohlimollaaXB17
import Derived.Test.YthocaohlimollaaXB18
import Derived.Test.YthocaohlimollaaXB19
import Derived.Test.YthocaohlimollaaXB20
import Derived.Test.YthocaohlimollaaXB21
import Derived.Test.YthocaohlimollaaXB22
namespace Go.Proofs.Ythocaohlimollaa.XB
open Go.RowKit Go.Proofs.YthocaohlimollaaW.PrintWords Go.Proofs.YthocaohlimollaaW.PrintLast Go.Proofs.YthocaohlimollaaW.PrintMore
attribute [local go_sem] max2_int min2_int max_two min_two max_three min_three max_four min_four   -- for this text's walks alone
set_option linter.unusedVariables false
set_option linter.unusedSimpArgs false

end Go.Proofs.Ythocaohlimollaa.XB
