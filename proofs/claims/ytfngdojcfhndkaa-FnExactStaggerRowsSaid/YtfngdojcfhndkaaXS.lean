/- Contracts of functions of the given program, each for all arguments at which its Lean function answers; written by a program of this session (wip/xprint.py) over the print of the kit. -/
import Derived.Test.YtfngdojcfhndkaaXS0
import Derived.Test.YtfngdojcfhndkaaXS1
import Derived.Test.YtfngdojcfhndkaaXS2
import Derived.Test.YtfngdojcfhndkaaXS3
import Derived.Test.YtfngdojcfhndkaaXS4
import Derived.Test.YtfngdojcfhndkaaXS5
import Derived.Test.YtfngdojcfhndkaaXS6
import Derived.Test.YtfngdojcfhndkaaXS7
import Derived.Test.YtfngdojcfhndkaaXS8
import Derived.Test.YtfngdojcfhndkaaXS9
import Derived.Test.YtfngdojcfhndkaaXS10
import Derived.Test.YtfngdojcfhndkaaXS11
import Derived.Test.YtfngdojcfhndkaaXS12
import Derived.Test.YtfngdojcfhndkaaXS13
namespace Go.Proofs.Ytfngdojcfhndkaa.XS
open Go.RowKit Go.Proofs.YtfngdojcfhndkaaW.PrintWords Go.Proofs.YtfngdojcfhndkaaW.PrintLast Go.Proofs.YtfngdojcfhndkaaW.PrintMore
attribute [local go_sem] max2_int min2_int max_two min_two max_three min_three max_four min_four   -- for this text's walks alone
set_option linter.unusedVariables false
set_option linter.unusedSimpArgs false

end Go.Proofs.Ytfngdojcfhndkaa.XS
