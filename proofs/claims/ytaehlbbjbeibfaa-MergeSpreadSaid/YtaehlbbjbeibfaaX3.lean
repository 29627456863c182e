-- Laid by xprint.py, a program of this session's, out of the translation.
import Derived.Test.YtaehlbbjbeibfaaX0
import Derived.Test.YtaehlbbjbeibfaaX2
namespace Go.Proofs.Ytaehlbbjbeibfaa.X
open Go.RowKit Go.Proofs.YtaehlbbjbeibfaaW.PrintWords Go.Proofs.YtaehlbbjbeibfaaW.PrintLast Go.Proofs.YtaehlbbjbeibfaaW.PrintMore
attribute [local go_sem] max2_int min2_int max_two min_two max_three min_three max_four min_four x_isSome x_str_gtr x_str_leq x_str_geq   -- for this text's walks alone
set_option linter.unusedVariables false
set_option linter.unusedSimpArgs false


end Go.Proofs.Ytaehlbbjbeibfaa.X
