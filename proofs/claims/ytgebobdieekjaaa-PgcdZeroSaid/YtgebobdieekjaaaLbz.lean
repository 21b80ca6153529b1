import Derived.Test.YtgebobdieekjaaaLbk
set_option linter.unusedSimpArgs false
set_option linter.unusedVariables false
namespace Go.Proofs.Ytgebobdieekjaaa
open Go Pm

end Go.Proofs.Ytgebobdieekjaaa
