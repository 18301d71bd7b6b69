-- Written for this claim by a program of this session.
import Derived.Test.YtfhipccjnmfefaaQNumx0
import Derived.Test.YtfhipccjnmfefaaQNumx1
import Derived.Test.YtfhipccjnmfefaaQNumx2
import Derived.Test.YtfhipccjnmfefaaQNumx3
import Derived.Test.YtfhipccjnmfefaaQNumx4
import Derived.Test.YtfhipccjnmfefaaQNumx5
import Derived.Test.YtfhipccjnmfefaaQNumx6
namespace Go.Proofs.Ytfhipccjnmfefaa.QNum
open Go.RowKit Go.Proofs.YtfhipccjnmfefaaW.PrintWords Go.Proofs.YtfhipccjnmfefaaW.PrintLast Go.Proofs.YtfhipccjnmfefaaW.PrintMore
attribute [local go_sem] max2_int min2_int max_two min_two max_three min_three max_four min_four   -- for this text's walks alone
set_option linter.unusedVariables false
set_option linter.unusedSimpArgs false

end Go.Proofs.Ytfhipccjnmfefaa.QNum
