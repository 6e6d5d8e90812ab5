-- Written by a program of this session out of Lean's print of the program (a turned print); checked by Lean.
import Derived.Test.YtafigfhlpjnejaaPgx0
import Derived.Test.YtafigfhlpjnejaaPgx1
import Derived.Test.YtafigfhlpjnejaaPgx2
import Derived.Test.YtafigfhlpjnejaaPgx3
import Derived.Test.YtafigfhlpjnejaaPgx4
import Derived.Test.YtafigfhlpjnejaaPgx5
import Derived.Test.YtafigfhlpjnejaaPgx6
import Derived.Test.YtafigfhlpjnejaaPgx7
import Derived.Test.YtafigfhlpjnejaaPgx8
import Derived.Test.YtafigfhlpjnejaaPgx9
import Derived.Test.YtafigfhlpjnejaaPgx10
import Derived.Test.YtafigfhlpjnejaaPgx11
import Derived.Test.YtafigfhlpjnejaaPgx12
import Derived.Test.YtafigfhlpjnejaaPgx13
namespace Go.Proofs.Ytafigfhlpjnejaa.Pg
open Go.RowKit Go.Proofs.YtafigfhlpjnejaaW.PrintWords Go.Proofs.YtafigfhlpjnejaaW.PrintLast Go.Proofs.YtafigfhlpjnejaaW.PrintMore
attribute [local go_sem] max2_int min2_int max_two min_two max_three min_three max_four min_four   -- for this text's walks alone
set_option linter.unusedVariables false
set_option linter.unusedSimpArgs false
end Go.Proofs.Ytafigfhlpjnejaa.Pg
