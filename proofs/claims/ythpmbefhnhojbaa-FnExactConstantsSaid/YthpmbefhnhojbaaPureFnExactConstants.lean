/- The program's constants are the reference's: the plain law, without conditions. -/
import Derived.Test.YthpmbefhnhojbaaPFnExactConstantsx1
set_option linter.unusedVariables false
set_option linter.unusedSimpArgs false
namespace Go.Proofs.Ythpmbefhnhojbaa.Pure
open Go.RowKit Go.Proofs.Ythpmbefhnhojbaa.PFnExactConstants Go.Proofs.YthpmbefhnhojbaaW.PrintWords Go.Proofs.YthpmbefhnhojbaaW.PrintLast Go.Proofs.YthpmbefhnhojbaaW.PrintMore

theorem FnExactConstants : laws_FnExactConstants.Pure := rfl

end Go.Proofs.Ythpmbefhnhojbaa.Pure
