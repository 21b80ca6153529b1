import Derived.Test.YtdiladmkbpnhoaaGreatLcb
import Derived.Test.YtdiladmkbpnhoaaGreatLca
set_option linter.unusedSimpArgs false
set_option linter.unusedVariables false
namespace Go.Proofs.YtdiladmkbpnhoaaGreat
open Go Pm
end Go.Proofs.YtdiladmkbpnhoaaGreat
