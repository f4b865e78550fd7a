-- Contracts of functions, written by myprint.py (wip/): my own program, over the kit's print.py with arrays told as structs. Lean checks it.
import Derived.Test.YtibglhnafohmhaaPStatx0
import Derived.Test.YtibglhnafohmhaaPStatx1
import Derived.Test.YtibglhnafohmhaaPStatx2
import Derived.Test.YtibglhnafohmhaaPStatx3
import Derived.Test.YtibglhnafohmhaaPStatx4
namespace Go.Proofs.Ytibglhnafohmhaa.PStat
open Go.RowKit Go.Proofs.YtibglhnafohmhaaW.PrintWords Go.Proofs.YtibglhnafohmhaaW.PrintLast Go.Proofs.YtibglhnafohmhaaW.PrintMore
attribute [local go_sem high] fl_eql fl_neq fl_lss fl_leq fl_gtr fl_geq fl_foi
attribute [local go_sem] fl_ari fl_max fl_min fl_store
attribute [local go_sem] max2_int min2_int max_two min_two max_three min_three max_four min_four   -- for this text's walks alone
set_option linter.unusedVariables false
set_option linter.unusedSimpArgs false

end Go.Proofs.Ytibglhnafohmhaa.PStat
