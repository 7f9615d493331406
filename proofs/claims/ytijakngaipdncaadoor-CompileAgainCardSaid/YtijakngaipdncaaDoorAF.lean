import Derived.Test.YtijakngaipdncaaDoorAE
set_option linter.unusedVariables false
set_option linter.unusedSimpArgs false
namespace Go.AM
end Go.AM
